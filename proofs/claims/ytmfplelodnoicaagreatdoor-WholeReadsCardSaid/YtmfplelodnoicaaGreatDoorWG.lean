/- digits: the decimal text -/
/- digits: read; texts that are decimal digits -/
/- texts: isDigits, ParseZ, Text, Int64 -/
/- texts: ParseZ, Text, Int64 -/
/- strings.Cut at one byte -/
import Derived.Test.YtmfplelodnoicaaGreatDoorWE
import Derived.Test.YtmfplelodnoicaaGreatDoorWD
import Derived.Test.YtmfplelodnoicaaGreatDoorWA
import Derived.Test.YtmfplelodnoicaaGreatDoorShelf
import Derived.Deep.DeepCutAuto
import Derived.Lib.SlBytesRow
import Derived.Laws.IdiomStrings
import Derived.Test.YtmfplelodnoicaaGreatDoorWB
import Derived.Shelf.Strings.SlTrimAscii
import Derived.IntWalk
namespace Go.Proofs.YtmfplelodnoicaaGreatDoor
open Go.RowKit Dig

theorem info_str : (Tryz.prog.info? 9).map (fun i => (i.zero, i.size, i.bytes)) = some (some (.string ⟨#[]⟩), 1, 16) := by kernel_rfl

/-- append onto a row, as a step of a region that draws its order -/
theorem step_append_row {P : Program} {w : World} {ops : Array Oper} {o : Oper} {a : Act} {K : Act → World → Prop} {Q : Exit → Act → World → Prop} {E : Prop} (hgd : o.guard = none) (s x : Operand) (t : TypeId)
    (ho : o.op = .call { callee := .builtin .append, args := #[s, x], argTypes := #[t, t] })
    (e : TypeId) (i : TypeInfo) (z : Value) (size bytes : Nat) (ht : P.underlying t = some (.slice e)) (hi : P.info? e = some i) (hz : i.zero = some z)
    (hsize : i.size = size) (hby : i.bytes = bytes) (hzs : z.cells.size = size) (hsz : 0 < size)
    (v : Value) (n : Nat) (xs : List Value) (hs : a.eval s = v) (hown : w.ownsRow 0 e size v n xs)
    (sv : Value) (m : Nat) (news : List Value) (hx : a.eval x = sv) (hsrc : w.ownsRow 0 e size sv m news) (h1 : ∀ u ∈ news, u.oneCell' = true)
    (h63 : n + m ≤ 1000000000) (hbytes : bytes ≤ 100000)
    (h : ∀ a' c' w', w'.ownsRow 0 e size (.slice a' (n + m) c') (n + m) (xs ++ news) → w.grownBy w' v.ownBlock → Since w.heap.size v (.slice a' (n + m) c') → K (a.put o.dst (.slice a' (n + m) c')) w') :
    if Region.wanted o (yielded ops a.tmps) = true then Oper.wp P o a w K Q else E := by
  have hw : Region.wanted o (yielded ops a.tmps) = true := by simp [Region.wanted, hgd]
  rw [if_pos hw]
  obtain ⟨a', c', w', hr, h2, h3, h4⟩ := run_append_row (P := P) w t o.type e i z size bytes ht hi hz hsize hby hzs hsz v n xs hown sv m news hsrc h1 h63 hbytes
  unfold Oper.wp execOp
  simp only [ho, resolve, invoke, builtin, Sem.run_bind, Sem.run_pure, Result.andThen_ok, List.map_toArray, List.map_cons, List.map_nil, hs, hx, hr]
  exact h _ _ _ h2 h3 h4

/-- a row of strings -/
def Sx (w : World) (v : Value) (xs : List ByteArray) : Prop := w.ownsRow 0 9 1 v xs.length (xs.map Value.string)
theorem Sx.keep {w w' : World} {v : Value} {xs : List ByteArray} (h : Sx w v xs) (hk : Keeps w w') : Sx w' v xs := by
  refine ⟨h.1, ?_⟩
  rcases h.2 with hn | ⟨g, cap, cur, rfl, hb0, hg, rest⟩
  · exact .inl hn
  · exact .inr ⟨g, cap, cur, rfl, hb0, hk.row g _ hg rfl, rest⟩
section
variable {w W : World} {bs : List (Nat × Array Value × TypeId)} {rs : List (World → Prop)}
theorem St.px (h : St w W bs rs) {s : Value} {xs : List ByteArray} (hz : Sx W s xs) : St w W bs (rs ++ [fun V => Sx V s xs]) := h.push (fun _ _ k hz => hz.keep k) hz
theorem St.x (h : St w W bs rs) (i : Nat) {s : Value} {xs : List ByteArray} (hx : rs[i]? = some (fun V => Sx V s xs)) : Sx W s xs := (h.rd _ (List.mem_of_getElem? hx)).2
end
/-- the bytes of strings, one after the other -/
def flat (xs : List ByteArray) : List UInt8 := (xs.map (·.data.toList)).flatten

/-- seven cells of bytes -/
def bcells (l : List UInt8) : Array Value := (l.map fun b => Value.int .u8 (b.toNat : Int)).toArray
/-- the lowest k of seven decimal digits of R are laid -/
def padk (k R : Nat) : List UInt8 := List.replicate (7 - k) 0 ++ Dec.pad k R

theorem pad_mod : ∀ (k R : Nat), Dec.pad k (R % 10 ^ k) = Dec.pad k R
  | 0, _ => rfl
  | k + 1, R => by
    have := Dec.pad_add (k + 1) 0 R
    rw [Nat.zero_add] at this
    simpa [Dec.pad] using this.symm
theorem pad_succ (k R : Nat) : Dec.pad (k + 1) R = Dec.dch (R / 10 ^ k) :: Dec.pad k R := by
  have := Dec.pad_add k 1 R
  rw [Nat.add_comm 1 k, pad_mod] at this
  rw [this]
  rfl
theorem padk_set {k R : Nat} (h : k < 7) : (bcells (padk k R)).setIfInBounds (6 - k) (.int .u8 ((R / 10 ^ k % 10 + 48 : Nat) : Int)) = bcells (padk (k + 1) R) := by
  unfold bcells padk
  rw [List.setIfInBounds_toArray, pad_succ]
  congr 1
  obtain ⟨j, hj⟩ : ∃ j, 7 - k = j + 1 := ⟨6 - k, by omega⟩
  rw [hj, show 6 - k = j by omega, show 7 - (k + 1) = j by omega, List.replicate_succ']
  simp only [List.map_append, List.map_replicate, List.map_cons, List.append_assoc, List.singleton_append]
  rw [List.set_append_right _ _ (by simp)]
  simp only [List.length_replicate, Nat.sub_self, List.set_cons_zero]
  rw [Dec.dch_toNat, Nat.add_comm]
theorem padk_len {k R : Nat} (h : k ≤ 7) : (padk k R).length = 7 := by
  unfold padk; rw [List.length_append, List.length_replicate, Dec.pad_len]; omega
theorem bcells_size (l : List UInt8) : (bcells l).size = l.length := by unfold bcells; simp

theorem info_u8 : (Tryz.prog.info? 5).map (fun i => (i.zero, i.size, i.bytes)) = some (some (.int .u8 0), 1, 1) := by kernel_rfl
theorem make7 (w : World) : (Instr.makeSlice 154 (.int .i64 7) (.int .i64 7)).run Tryz.prog w = .ok (.slice (some ⟨w.heap.size, 0, none⟩) 7 7) (w.alloc (.cells (bcells (padk 0 0)) 5)) := by
  obtain ⟨i0, hi, hz0, hz1, hz2⟩ := info_parts info_u8
  have := run_make (P := Tryz.prog) w 154 5 i0 (.int .u8 0) Tryz.underlying154 hi hz0 .i64 .i64 7 7 (by omega) (by omega) (by rw [hz2]; omega) (by omega)
  rw [this, hz1]
  have e : madeCells #[Value.int .u8 0] 7 = bcells (padk 0 0) := Array.toList_inj.1 (by rw [toList_madeCells_one]; rfl)
  rw [← e]
  rfl

theorem addr_add0 (b j : Nat) : (⟨b, 0, none⟩ : Addr).add j = ⟨b, j, none⟩ := by simp [Addr.add]; intro h; rw [h]
theorem St.conv {w W : World} {bs : List (Nat × Array Value × TypeId)} {rs : List (World → Prop)} (h : St w W bs rs) (i : Nat) {b : Nat} {l : List UInt8} (hx : bs[i]? = some (b, bcells l, 5)) (h7 : l.length = 7) :
    (convert 154 9 (.slice (some ⟨b, 0, none⟩) 7 7)).run Tryz.prog W = .ok (.string ⟨l.toArray⟩) W := by
  have := Go.run_convert_bytes_back (P := Tryz.prog) W 154 9 5 ⟨b, 0, none⟩ 7 l Tryz.underlying154 Tryz.underlying5 Tryz.underlying9 (fun j hj => by
    have := h.cell i j (v := .int .u8 (l[j].toNat : Int)) hx (by unfold bcells; rw [List.getElem?_toArray, List.getElem?_map, List.getElem?_eq_getElem hj]; rfl)
    show W.cell? ((⟨b, 0, none⟩ : Addr).add j) = _
    rw [addr_add0]; exact this)
  rw [h7] at this
  exact this
theorem j_bound {M j : Nat} (hl : (dg 16777216 M).length ≤ 50000) (h : 10 ^ (7 * j) ≤ M) : j ≤ 60000 := by
  have h1 : M < 2 ^ (24 * (dg 16777216 M).length) := by
    have := dg_len_lt (b := 16777216) (by omega) M
    rw [show (16777216 : Nat) = 2 ^ 24 from rfl, ← Nat.pow_mul] at this
    exact this
  have h2 : 2 ^ (21 * j) ≤ 10 ^ (7 * j) := by
    rw [show 21 * j = 3 * (7 * j) by omega, Nat.pow_mul]
    exact Nat.pow_le_pow_left (by omega) _
  have h3 := Nat.lt_of_le_of_lt (Nat.le_trans h2 h) h1
  have h4 := (Nat.pow_lt_pow_iff_right (by omega)).1 h3
  omega
theorem len_div {M : Nat} (hl : (dg 16777216 M).length ≤ 50000) (k : Nat) : (dg 16777216 (M / k)).length ≤ 1000000 := Nat.le_trans (Dig.dg_len_mono (by omega) (Nat.div_le_self _ _)) (by omega)
theorem len_step : (dg 16777216 10000000).length ≤ 1000000 := Nat.le_trans (dg_len_le (k := 1) (by omega) (by omega)) (by omega)
theorem step_dg (w : World) : Dg (w.alloc (.cells #[.int .i64 10000000] 2)) (.slice (some ⟨w.heap.size, 0, none⟩) 1 1) 10000000 := by
  unfold Dg
  rw [show dg 16777216 10000000 = [10000000] from by rw [dg_pos (by omega) (by omega), show 10000000 / 16777216 = 0 from rfl, dg_zero]; rfl]
  exact Sl.one _ _ _
theorem sx_row {w : World} {pa : Option Addr} {pn pc : Nat} {xs : List ByteArray} (h : Sx w (.slice pa pn pc) xs) (h0 : 0 < xs.length) :
    ∃ g, pa = some ⟨g, 0, none⟩ ∧ g < w.heap.size ∧ ∀ (j : Nat) x, xs[j]? = some x → w.cell? ⟨g, 0 + j, none⟩ = some (.string x) := by
  rcases h.2 with ⟨h1, h2⟩ | ⟨g, cap, cur, h1, _, h3, _⟩
  · omega
  · simp only [Value.slice.injEq] at h1
    obtain ⟨rfl, _, _⟩ := h1
    refine ⟨g, rfl, (Array.getElem?_eq_some_iff.1 h3).1, fun j x hx => ?_⟩
    have := World.ownsRow.cells h (g := g) rfl j (.string x) (by rw [List.getElem?_map, hx]; rfl)
    rw [addr_add0] at this
    rw [Nat.zero_add]; exact this
theorem sx_cap {w : World} {pa : Option Addr} {pn pc : Nat} {xs : List ByteArray} (h : Sx w (.slice pa pn pc) xs) : xs.length ≤ pc ∧ pn = xs.length := by
  rcases h.2 with ⟨h1, h2⟩ | ⟨g, cap, cur, h1, _, h3, h4, _⟩
  · simp only [Value.slice.injEq] at h1; omega
  · simp only [Value.slice.injEq] at h1; omega
theorem join_flat (xs : List ByteArray) : Lib.join (xs.map (·.data.toList)) (⟨#[]⟩ : ByteArray).data.toList = flat xs := by
  unfold Lib.join flat
  generalize xs.map (·.data.toList) = l
  show List.intercalate [] l = l.flatten
  rcases l with _ | ⟨a, l⟩
  · rfl
  · induction l generalizing a with
    | nil => simp [List.intercalate]
    | cons b l ih =>
      have := ih b
      simp only [List.intercalate, List.intersperse_cons_cons, List.flatten_cons, List.nil_append] at this ⊢
      rw [this]
theorem M_next (M j : Nat) : M / 10 ^ (7 * j) / 10000000 = M / 10 ^ (7 * (j + 1)) := by
  rw [Nat.div_div_eq_div_mul, show 7 * (j + 1) = 7 * j + 7 by omega, Nat.pow_add]
theorem pad_next (M j : Nat) : Dec.pad 7 (M / 10 ^ (7 * j) % 10000000) ++ Dec.pad (7 * j) M = Dec.pad (7 * (j + 1)) M := by
  have := Dec.pad_add (7 * j) 7 M
  rw [pad_mod, Nat.add_comm] at this
  rw [show 7 * (j + 1) = 7 * j + 7 by omega, this]
  congr 1
  exact pad_mod 7 _
theorem text_end {M j : Nat} (h0 : M / 10 ^ (7 * j) = 0) : Lib.trimLeftB (Dec.pad (7 * j) M) 48 = if M = 0 then [] else Dec.dec M := by
  have h : M < 10 ^ (7 * j) := by
    rcases Nat.lt_or_ge M (10 ^ (7 * j)) with h | h
    · exact h
    · have := Nat.div_pos h (Nat.pow_pos (by omega)); omega
  exact Dec.drop0_pad h

set_option maxRecDepth 100000 in
set_option maxHeartbeats 2000000 in
theorem text_any (a : Option Addr) (n c : Nat) (M : Nat) (w : World) (h1 : Dg w (.slice a n c) M) (hl : (dg 16777216 M).length ≤ 50000) :
    Calls Tryz.prog 116 #[.agg #[.slice a n c]] w fun e w' => e = .returned (.string ⟨(Dec.dec M).toArray⟩) ∧ Below w.heap.size w w' := by
  have hC := Lib.hid (((St.enter w).pd h1).al w.heap.size #[.slice a n c] 26 rfl rfl)
  have HL := Lib.hid hl
  have mk := make7
  obtain ⟨i0, hi, hz0, hz1, hz2⟩ := info_parts info_str
  have HI := Lib.hid hi; have HZ0 := Lib.hid hz0; have HZ1 := Lib.hid hz1; have HZ2 := Lib.hid hz2
  clear h1 hl hi hz0 hz1 hz2
  go_enter Tryz.func116, Tryz.ntmps116
  go_wp2
  go_loopg [3] M (fun gk p wr => ∃ (a' : Option Addr) (n' c' j : Nat) (pa : Option Addr) (pn pc : Nat) (xs : List ByteArray), M / 10 ^ (7 * j) = gk ∧ j ≤ 60001 ∧ p = .slice pa pn pc ∧ Hid (flat xs = Dec.pad (7 * j) M ∧ xs.length = j ∧ pn = j) ∧
    Hid (St w wr [(w.heap.size, #[.slice a' n' c'], 26)] [fun V => Dg V (.slice a' n' c') (M / 10 ^ (7 * j)), fun V => Sx V (.slice pa pn pc) xs]))
  case atStart => exact ⟨a, n, c, 0, none, 0, 0, [], by simp, by omega, rfl, ⟨rfl, rfl, rfl⟩, by rw [show M / 10 ^ (7 * 0) = M by simp]; exact (hC.out.px (s := .slice none 0 0) (xs := []) (World.ownsRow_nil _ 0 _ 1))⟩
  case round =>
    clear hC
    obtain ⟨a', n', c', j, pa, pn, pc, xs, rfl, hj, rfl, hX, hC⟩ := hrel
    have c0 := hC.out.cell 0 0 rfl rfl
    have hn' := Sl.len (hC.out.d 0 rfl)
    have e0 : (n' = 0) ↔ M / 10 ^ (7 * j) = 0 := by rw [hn', List.length_eq_zero_iff, dg_nil_iff (b := 16777216) (by omega)]
    have HE := Lib.hid e0
    clear hn' e0
    go_wp2_with fail
    refine (none_any _ _ _ _).mono ?_
    rintro e w1 ⟨rfl, hw1⟩
    have hC1 := Lib.hid (hC.out.call (W' := w1) (by rw [hw1]; exact (Below.refl _ _).alloc (Nat.le_refl _) _))
    clear hC hw1 c0
    have c0 := hC1.out.cell 0 0 rfl rfl
    by_cases h0 : M / 10 ^ (7 * j) = 0
    · have hk : ((n' : Int) == 0) = true := by simpa using HE.out.2 h0
      have H0 := Lib.hid h0
      rw [hk]
      clear h0 hk c0
      have HX := Lib.hid (hC1.out.x 1 rfl)
      by_cases hj0 : j = 0
      · subst hj0
        obtain rfl : xs = [] := List.eq_nil_of_length_eq_zero hX.out.2.1
        have hM : M = 0 := by simpa using H0.out
        subst hM
        obtain rfl : pn = 0 := hX.out.2.2
        go_wp2_with fail
        refine (Tryz.strings_Join_none _ _ _ _).mono ?_
        rintro e w4 ⟨rfl, rfl⟩
        go_wp2_with fail
        refine (Tryz.strings_TrimLeft_one ⟨#[]⟩ 48 (by decide) _).mono ?_
        rintro e w5 ⟨rfl, rfl⟩
        have e0 : (⟨(Lib.trimLeftB (⟨#[]⟩ : ByteArray).data.toList 48).toArray⟩ : ByteArray) = ⟨#[]⟩ := rfl
        rw [e0]
        go_wp2
        go_ret
        exact ⟨by rw [Dec.dec_lt (by omega)]; rfl, hC1.out.be⟩
      · obtain ⟨g, rfl, hg, hcells⟩ := sx_row HX.out (by rw [hX.out.2.1]; omega)
        obtain ⟨hcap, hpn⟩ := sx_cap HX.out
        subst hpn
        have HCE := Lib.hid hcells
        have HJ := Lib.hid (join_flat xs)
        have HT := Lib.hid (text_end H0.out)
        have HCAP := Lib.hid hcap
        have HXL : xs.length ≤ 60001 := by rw [hX.out.2.1]; exact hj
        clear hcells hcap hj0
        go_wp2_with fail
        refine (Tryz.strings_Join g 0 pc xs ⟨#[]⟩ _ HCE.out hg (by omega) HCAP.out (by rw [HJ.out, hX.out.1, Dec.pad_len]; omega)).mono ?_
        rintro e w4 ⟨rfl, hb⟩
        have hC2 := Lib.hid (hC1.out.call hb)
        clear hC1 hb
        rw [HJ.out, hX.out.1]
        go_wp2_with fail
        refine (Tryz.strings_TrimLeft_one ⟨(Dec.pad (7 * j) M).toArray⟩ 48 (by decide) _).mono ?_
        rintro e w5 ⟨rfl, rfl⟩
        rw [HT.out]
        by_cases hM : M = 0
        · subst hM
          rw [if_pos rfl]
          go_wp2
          go_ret
          exact ⟨by rw [Dec.dec_lt (by omega)]; rfl, hC2.out.be⟩
        · rw [if_neg hM]
          have hne : (⟨(Dec.dec M).toArray⟩ : ByteArray).toList.isEmpty = false := by
            rw [Lib.toList_data]
            cases e : Dec.dec M with
            | nil => exact absurd e (Dec.dec_ne_nil M)
            | cons => rfl
          obtain ⟨T, hT⟩ : ∃ T : ByteArray, T = ⟨(Dec.dec M).toArray⟩ := ⟨_, rfl⟩
          rw [← hT] at hne ⊢
          have HTT := Lib.hid hT
          clear hT
          go_wp2
          go_ret
          exact ⟨by rw [← HTT.out]; rfl, hC2.out.be⟩
    · have hk : ((n' : Int) == 0) = false := by simpa using fun e => h0 (HE.out.1 e)
      have hj2 : j ≤ 60000 := j_bound HL.out (by rcases Nat.lt_or_ge M (10 ^ (7 * j)) with h | h; exact absurd (Nat.div_eq_of_lt h) h0; exact h)
      have H0 := Lib.hid h0
      rw [hk]
      clear h0 hk
      go_wp2_with fail
      refine (over_any _ _ _ _ _ _ (M / 10 ^ (7 * j)) 10000000 _ (hC1.out.row.d 0 rfl) (step_dg w1) (by omega) (len_div HL.out _) len_step).mono ?_
      rintro e w2 ⟨b1, k1, l1, b2, k2, l2, rfl, hdq, hdr, hb⟩
      obtain ⟨R, hR⟩ : ∃ R : Nat, R = M / 10 ^ (7 * j) % 10000000 := ⟨_, rfl⟩
      rw [← hR] at hdr
      have HR := Lib.hid hR
      have hR7 : R < 10000000 := by rw [hR]; exact Nat.mod_lt _ (by omega)
      clear hR
      have hC2 := Lib.hid (((hC1.out.row.call hb).pd hdq).pd hdr |>.al w2.heap.size #[.slice b1 k1 l1] 26 rfl rfl |>.al (w2.heap.size + 1) #[.slice b2 k2 l2] 26 (by simp) rfl)
      clear hC1 hb hdq hdr c0
      go_wp2_with fail
      refine (dword_any _ _ _ _ _ (hC2.out.d 3 rfl) (by omega)).mono ?_
      rintro e w3 ⟨rfl, hb⟩
      have hC3 := Lib.hid ((hC2.out.call hb).al w3.heap.size (bcells (padk 0 R)) 5 rfl rfl)
      clear hC2 hb
      go_wp2
      go_loopw [6, 25] (fun nv iv wr => ∃ k : Nat, k ≤ 7 ∧ iv = .int .i64 k ∧ nv = .int .u64 (R / 10 ^ k : Nat) ∧
        Hid (St w wr [(w.heap.size, #[.slice a' n' c'], 26), (w2.heap.size, #[.slice b1 k1 l1], 26), (w2.heap.size + 1, #[.slice b2 k2 l2], 26), (w3.heap.size, bcells (padk k R), 5)]
          [fun V => Dg V (.slice a' n' c') (M / 10 ^ (7 * j)), fun V => Sx V (.slice pa pn pc) xs, fun V => Dg V (.slice b1 k1 l1) (M / 10 ^ (7 * j) / 10000000)])) (fun _ i _ => 7 - (intOf i).toNat)
      case atStart => exact ⟨0, by omega, rfl, by simp, (hC3.out.pick [0, 1, 2] rfl)⟩
      case round =>
        clear hC3
        obtain ⟨k, hk, rfl, rfl, hC⟩ := hrel
        by_cases hlt : k < 7
        · have hq : R / 10 ^ k < 10000000 := Nat.lt_of_le_of_lt (Nat.div_le_self _ _) hR7
          obtain ⟨q, hq'⟩ : ∃ q : Nat, q = R / 10 ^ k := ⟨_, rfl⟩
          rw [← hq'] at hq ⊢
          have HQ := Lib.hid hq'
          clear hq'
          have cc := hC.out.cell 3 (6 - k) (v := .int .u8 (((padk k R)[6 - k]'(by rw [padk_len hk]; omega)).toNat : Int)) rfl (by unfold bcells; rw [List.getElem?_toArray, List.getElem?_map, List.getElem?_eq_getElem (by rw [padk_len hk]; omega)]; rfl)
          have ff := hC.out.free 3 (6 - k) rfl
          go_wp2
          go_roundw
          case rel =>
            refine ⟨k + 1, by omega, by go_num, ?_, ?_⟩
            · congr 1
              rw [Nat.pow_succ, ← Nat.div_div_eq_div_mul, ← HQ.out]
              omega
            · have e : (48 + (q : Int) % 10) = ((R / 10 ^ k % 10 + 48 : Nat) : Int) := by rw [← HQ.out]; omega
              rw [e, ← padk_set hlt]
              exact hC.out.set 3 rfl
          case measure => simp [intOf]; omega
        · obtain rfl : k = 7 := by omega
          clear hk hlt
          have HX := Lib.hid (hC.out.x 1 rfl)
          have hxl : xs.length ≤ 60000 := by rw [hX.out.2.1]; exact hj2
          go_wp2_with fail
          go_region_held3 (fun w' => w'.cell? ⟨w2.heap.size, 0, none⟩ = some (.slice b1 k1 l1) ∧ (convert 154 9 (.slice (some ⟨w3.heap.size, 0, none⟩) 7 7)).run Tryz.prog w' = .ok (.string ⟨(padk 7 R).toArray⟩) w')
            (first
              | (with_reducible refine And.intro (?_ : World.cell? (World.drew (World.alloc wr _)) _ = _) ?_; exact hC.out.row.drew.cell 1 0 rfl rfl; exact hC.out.row.drew.conv 3 rfl (padk_len (by omega)))
              | (with_reducible refine And.intro (?_ : World.cell? (World.setCell wz _ _) _ = _) ?_; exact (hCz.out.set 0 rfl).cell 1 0 rfl rfl; exact (hCz.out.set 0 rfl).conv 3 rfl (padk_len (by omega)))
              | (with_reducible refine And.intro (?_ : World.cell? wz _ = _) ?_; exact hCz.out.cell 1 0 rfl rfl; exact hCz.out.conv 3 rfl (padk_len (by omega)))
              | (with_reducible refine And.intro (?_ : World.cell? _ _ = _) ?_; exact hC.out.drew.cell 1 0 rfl rfl; exact hC.out.drew.conv 3 rfl (padk_len (by omega))))
            (first
              | (refine step_append_row (by rfl) _ _ 153 (by rfl) 9 i0 (.string ⟨#[]⟩) 1 16 Tryz.underlying153 HI.out HZ0.out HZ1.out HZ2.out rfl (by decide) _ 1 [.string ⟨(padk 7 R).toArray⟩] (by rfl) (ownsRow_new wr.drew #[.string ⟨(padk 7 R).toArray⟩] 9 1 1 (by decide) rfl) _ xs.length (xs.map Value.string) (by rfl) (Sx.keep HX.out ((Keeps.refl wr).drew.alloc _)) (by intro u hu; obtain ⟨y, _, rfl⟩ := List.mem_map.1 hu; rfl) (by omega) (by decide) ?_; intro pa2 pc2 wz hown2 hg2 hs2; have hCz := Lib.hid (hC.out.call (((Below.refl wr.heap.size wr).alloc (Nat.le_refl _) _).drew.grown hg2 (by simp) (fun k hk => by simp [Value.ownBlock] at hk; omega))); have HY := Lib.hid hown2; clear hown2 hg2 hs2; have c00 := hCz.out.cell 0 0 rfl rfl; have f00 := hCz.out.free 0 0 rfl))
          go_wp2
          go_roundg (M / 10 ^ (7 * (j + 1)))
          case measure =>
            rw [← M_next]
            have := H0.out
            exact Nat.div_lt_self (Nat.pos_of_ne_zero this) (by omega)
          case rel =>
            have hl : 1 + xs.length = ((⟨(padk 7 R).toArray⟩ : ByteArray) :: xs).length := by rw [List.length_cons, Nat.add_comm]
            refine ⟨b1, k1, l1, j + 1, pa2, 1 + xs.length, pc2, ⟨(padk 7 R).toArray⟩ :: xs, rfl, by omega, rfl, ⟨?_, by rw [List.length_cons, hX.out.2.1], by rw [hX.out.2.1, Nat.add_comm]⟩, ?_⟩
            · have e : padk 7 R = Dec.pad 7 R := rfl
              show padk 7 R ++ flat xs = _
              rw [e, hX.out.1, HR.out, pad_next]
            · rw [← M_next]
              have hy : Sx wz (.slice pa2 (1 + xs.length) pc2) (⟨(padk 7 R).toArray⟩ :: xs) := by
                have := HY.out
                unfold Sx
                rw [← hl]
                exact this
              have h1 := (hCz.out.px hy).set (j := 0) (v := .slice b1 k1 l1) 0 rfl
              refine ⟨h1.be, fun x hx => ?_, List.pairwise_singleton _ _, (h1.pick [2, 3] rfl).rd⟩
              rcases List.mem_singleton.1 hx with rfl
              exact h1.at_ 0 rfl

end Go.Proofs.YtmfplelodnoicaaGreatDoor
namespace Go.Proofs.YtmfplelodnoicaaGreatDoor
open Go.RowKit Dig

theorem word_int (z : Int) (w : World) (h0 : 0 ≤ z) (h : z < 18446744073709551616) : Calls Tryz.prog 119 #[.int .u64 z] w (RetD w z.toNat) := by
  have := word_any z.toNat w (by omega)
  rw [Int.toNat_of_nonneg h0] at this
  exact this

theorem take_snoc (s : ByteArray) (k : Nat) (h : k < s.size) : s.data.toList.take (k + 1) = s.data.toList.take k ++ [s[k]] := by
  rw [List.take_succ_eq_append_getElem (by simpa using h)]; rfl
theorem dg_pow_le {n k : Nat} (h : n < 10 ^ k) : (dg 16777216 n).length ≤ k :=
  dg_len_le (by omega) (Nat.lt_of_lt_of_le h (Nat.pow_le_pow_left (by omega) _))

set_option maxRecDepth 100000 in
set_option maxHeartbeats 1000000 in
theorem read_any (s : ByteArray) (w : World) (hd : ∀ c ∈ s.data.toList, Dec.isDig c = true) (hs : s.size ≤ 100000) :
    Calls Tryz.prog 112 #[.string s] w (RetD w (Dec.val s.data.toList)) := by
  have hC := Lib.hid (((St.enter w).al w.heap.size #[.slice none 0 0] 26 rfl rfl).al (w.heap.size + 1) #[.slice none 0 0] 26 (by simp) rfl)
  have HD := Lib.hid hd
  clear hd
  go_enter Tryz.func112, Tryz.ntmps112
  go_wp2
  go_loopw [7] (fun iv wr => ∃ (k : Nat) (a : Option Addr) (n c : Nat), k ≤ s.size ∧ iv = .int .i64 k ∧ Hid (St w wr [(w.heap.size, #[.slice none 0 0], 26), (w.heap.size + 1, #[.slice a n c], 26)] [fun V => Dg V (.slice a n c) (Dec.val (s.data.toList.take k))])) (fun i _ => s.size - (intOf i).toNat)
  case atStart => exact ⟨0, none, 0, 0, by omega, rfl, hC.out.pd (show Dg _ _ _ from by unfold Dg; rw [List.take_zero, Dec.val_nil, dg_zero]; exact Sl.nil)⟩
  case round =>
    clear hC
    obtain ⟨k, a, n, c, hk, rfl, hC⟩ := hrel
    by_cases hlt : k < s.size
    · have hdk := HD.out s[k] (by rw [ByteArray.getElem_eq_getElem_data]; simp)
      unfold Dec.isDig at hdk
      simp only [Bool.and_eq_true, decide_eq_true_eq] at hdk
      have hlo : (48 : Int) ≤ (s[k].toNat : Int) := by omega
      have hhi : (s[k].toNat : Int) ≤ 57 := by omega
      have HV := Lib.hid (show Dec.val (s.data.toList.take k) < 10 ^ k from by
        have := Dec.val_lt (l := s.data.toList.take k) (fun c hc => HD.out c (List.mem_of_mem_take hc))
        rw [List.length_take, Nat.min_eq_left (by simpa using hk)] at this
        exact this)
      have HN := Lib.hid (show Dec.val (s.data.toList.take (k + 1)) = 10 * Dec.val (s.data.toList.take k) + (s[k].toNat - 48) from by rw [take_snoc s k hlt, Dec.val_snoc])
      have HL1 := Lib.hid (dg_pow_le HV.out)
      have HL2 := Lib.hid (show (dg 16777216 (Dec.val (s.data.toList.take k) * 10)).length ≤ k + 1 from dg_pow_le (by have := HV.out; rw [Nat.pow_succ]; omega))
      clear hdk
      have c10 := hC.out.cell 1 0 rfl rfl
      go_wp2
      have HL3 := Lib.hid (show (dg 16777216 10).length ≤ 10000000 from Nat.le_trans (dg_pow_le (k := 2) (by omega)) (by omega))
      have HL4 := Lib.hid (show (dg 16777216 ((s[k].toNat : Int) - 48).toNat).length ≤ 10000000 from Nat.le_trans (dg_pow_le (k := 2) (by omega)) (by omega))
      have tok1 : True := trivial
      have hw1 : IntKind.u8.wrap ((s[k].toNat : Int) - 48) = (s[k].toNat : Int) - 48 := by rw [IntKind.wrap_u8]; omega
      have hw2 : IntKind.u64.wrap ((s[k].toNat : Int) - 48) = (s[k].toNat : Int) - 48 := by rw [IntKind.wrap_u64]; omega
      refine wp_region_noPanic ?_
      refine wp_region_held_drew (S := (fun _ => True)) (by kernel_rfl) ?_ (fun hH0 => ?_)
      · (try dsimp only)
        all_goals (trivial)
      refine wpAnyH_take (i := 3) (oi := ⟨_, _, _, _, _, _⟩) (v := ?_) rfl (by kernel_rfl) (by kernel_rfl) (by kernel_rfl) (fun _ _ _ h => h) (Or.inl ⟨by rfl, ?_⟩) hH0 ?_
      rotate_left
      · intro wS hSw; (try dsimp only at hSw); go_simp; try with_reducible rfl
      try simp only [Act.put, List.setIfInBounds_toArray, List.set_cons_zero, List.set_cons_succ]
      refine wpAnyH_take (i := 4) (oi := ⟨_, _, _, _, _, _⟩) (v := ?_) rfl (by kernel_rfl) (by kernel_rfl) (by kernel_rfl) (fun _ _ _ h => h) (Or.inl ⟨by rfl, ?_⟩) hH0 ?_
      rotate_left
      · intro wS hSw; (try dsimp only at hSw); go_simp; try with_reducible rfl
      try simp only [Act.put, List.setIfInBounds_toArray, List.set_cons_zero, List.set_cons_succ]
      refine wpAnyH_ready (rs := [0, 1, 5]) (by kernel_rfl) (by simp) ?_
      refine AllReadyH.cons (o := ⟨_, _, _, _, _, _⟩) rfl (fun K hK => ?_) ?_
      · go_simp
        refine hK.out _ _ ?_ (fun hH1 => ?_)
        · (try dsimp only)
          all_goals (trivial)
        clear hK K hH0
        try simp only [Act.put, List.setIfInBounds_toArray, List.set_cons_zero, List.set_cons_succ]
        refine wpAnyH_ready (rs := [1, 5]) (by kernel_rfl) (by simp) ?_
        refine AllReadyH.cons (o := ⟨_, _, _, _, _, _⟩) rfl (fun K hK => ?_) ?_
        · go_simp
          (have _t := tok1; go_at_call 119; refine (word_any 10 _ (by omega)).mono ?_; rintro e wa ⟨b1, k1, l1, rfl, hdd, hb⟩; have hCa := Lib.hid ((hC.out.drew.call hb).pd hdd); clear hdd hb; have c10a := hCa.out.cell 1 0 rfl rfl; clear tok1 _t)
          (try go_wp2_with fail)
          refine hK.out _ _ ?_ (fun hH2 => ?_)
          · (try dsimp only)
            all_goals (trivial)
          clear hK K hH1
          try simp only [Act.put, List.setIfInBounds_toArray, List.set_cons_zero, List.set_cons_succ]
          refine wpAnyH_ready (rs := [2, 5]) (by kernel_rfl) (by simp) ?_
          refine AllReadyH.cons (o := ⟨_, _, _, _, _, _⟩) rfl (fun K hK => ?_) ?_
          · go_simp
            (go_at_call 122; refine (times_any _ _ _ _ _ _ _ _ _ (hCa.out.d 0 rfl) (hCa.out.d 1 rfl) (Nat.le_trans HL1.out (by omega)) HL3.out).mono ?_; rintro e wb ⟨b2, k2, l2, rfl, hdd, hb⟩; have hCb := Lib.hid ((hCa.out.call hb).pd hdd); clear hdd hb)
            (try go_wp2_with fail)
            refine hK.out _ _ ?_ (fun hH3 => ?_)
            · (try dsimp only)
              all_goals (trivial)
            clear hK K hH2
            try simp only [Act.put, List.setIfInBounds_toArray, List.set_cons_zero, List.set_cons_succ]
            refine wpAnyH_ready (rs := [5]) (by kernel_rfl) (by simp) ?_
            refine AllReadyH.cons (o := ⟨_, _, _, _, _, _⟩) rfl (fun K hK => ?_) ?_
            · go_simp
              refine hK.out _ _ ?_ (fun hH4 => ?_)
              · (try dsimp only)
                all_goals (trivial)
              clear hK K hH3
              try simp only [Act.put, List.setIfInBounds_toArray, List.set_cons_zero, List.set_cons_succ]
              refine wpAnyH_take (i := 6) (oi := ⟨_, _, _, _, _, _⟩) (v := ?_) rfl (by kernel_rfl) (by kernel_rfl) (by kernel_rfl) (fun _ _ _ h => h) (Or.inl ⟨by rfl, ?_⟩) hH4 ?_
              rotate_left
              · intro wS hSw; (try dsimp only at hSw); go_simp; try with_reducible rfl
              try simp only [Act.put, List.setIfInBounds_toArray, List.set_cons_zero, List.set_cons_succ]
              refine wpAnyH_take (i := 7) (oi := ⟨_, _, _, _, _, _⟩) (v := ?_) rfl (by kernel_rfl) (by kernel_rfl) (by kernel_rfl) (fun _ _ _ h => h) (Or.inl ⟨by rfl, ?_⟩) hH4 ?_
              rotate_left
              · intro wS hSw; (try dsimp only at hSw); go_simp; try with_reducible rfl
              try simp only [Act.put, List.setIfInBounds_toArray, List.set_cons_zero, List.set_cons_succ]
              refine wpAnyH_ready (rs := [8]) (by kernel_rfl) (by simp) ?_
              refine AllReadyH.cons (o := ⟨_, _, _, _, _, _⟩) rfl (fun K hK => ?_) ?_
              · go_simp
                (have _t := hCb; go_at_call 119; refine (word_int _ _ (by omega) (by omega)).mono ?_; rintro e wc ⟨b3, k3, l3, rfl, hdd, hb⟩; have hCc := Lib.hid ((hCb.out.call hb).pd hdd); clear hdd hb _t)
                (try go_wp2_with fail)
                refine hK.out _ _ ?_ (fun hH5 => ?_)
                · (try dsimp only)
                  all_goals (trivial)
                clear hK K hH4
                try simp only [Act.put, List.setIfInBounds_toArray, List.set_cons_zero, List.set_cons_succ]
                refine wpAnyH_ready (rs := [9]) (by kernel_rfl) (by simp) ?_
                refine AllReadyH.cons (o := ⟨_, _, _, _, _, _⟩) rfl (fun K hK => ?_) ?_
                · go_simp
                  (go_at_call 120; refine (plus_any _ _ _ _ _ _ 1 (Dec.val (s.data.toList.take k) * 10) ((s[k].toNat : Int) - 48).toNat _ (hCc.out.d 2 rfl) (hCc.out.d 3 rfl) (.inl rfl) (by omega) (Nat.le_trans HL2.out (by omega)) HL4.out).mono ?_; rintro e wd ⟨b4, k4, l4, rfl, hdd, hb⟩; have hCd := Lib.hid ((hCc.out.call hb).pd hdd); clear hdd hb; have d10 := hCd.out.cell 1 0 rfl rfl; have e10 := hCd.out.free 1 0 rfl)
                  (try go_wp2_with fail)
                  refine hK.out _ _ ?_ (fun hH6 => ?_)
                  · (try dsimp only)
                    all_goals (trivial)
                  clear hK K hH5
                  try simp only [Act.put, List.setIfInBounds_toArray, List.set_cons_zero, List.set_cons_succ]
                  refine wpAnyH_ready (rs := [10]) (by kernel_rfl) (by simp) ?_
                  refine AllReadyH.cons (o := ⟨_, _, _, _, _, _⟩) rfl (fun K hK => ?_) ?_
                  · go_simp
                    refine hK.out _ _ ?_ (fun hH7 => ?_)
                    · (try dsimp only)
                      all_goals (trivial)
                    clear hK K hH6
                    try simp only [Act.put, List.setIfInBounds_toArray, List.set_cons_zero, List.set_cons_succ]
                    refine wpAnyH_done (by kernel_rfl) ?_ _
                    refine NoPanic.normal ?_
                    go_wp2
                    go_roundw
                    case rel =>
                      have e : ((Dec.val (s.data.toList.take k) * 10 : Nat) : Int) + 1 * (((s[k].toNat : Int) - 48).toNat : Int) = ((Dec.val (s.data.toList.take (k + 1)) : Nat) : Int) := by rw [HN.out]; omega
                      refine ⟨k + 1, b4, k4, l4, by omega, by go_num, ?_⟩
                      have h4 := hCd.out.d 4 rfl
                      rw [e, Int.toNat_natCast] at h4
                      exact ((hCd.out.pd h4).set (j := 0) (v := .slice b4 k4 l4) 1 rfl).pick [5] rfl
                    case measure => simp [intOf]; omega
                  exact AllReadyH.nil
                exact AllReadyH.nil
              exact AllReadyH.nil
            exact AllReadyH.nil
          refine AllReadyH.cons (o := ⟨_, _, _, _, _, _⟩) rfl (fun K hK => ?_) ?_
          · go_simp
            refine hK.out _ _ ?_ (fun hH3 => ?_)
            · (try dsimp only)
              all_goals (trivial)
            clear hK K hH2
            try simp only [Act.put, List.setIfInBounds_toArray, List.set_cons_zero, List.set_cons_succ]
            refine wpAnyH_take (i := 6) (oi := ⟨_, _, _, _, _, _⟩) (v := ?_) rfl (by kernel_rfl) (by kernel_rfl) (by kernel_rfl) (fun _ _ _ h => h) (Or.inl ⟨by rfl, ?_⟩) hH3 ?_
            rotate_left
            · intro wS hSw; (try dsimp only at hSw); go_simp; try with_reducible rfl
            try simp only [Act.put, List.setIfInBounds_toArray, List.set_cons_zero, List.set_cons_succ]
            refine wpAnyH_take (i := 7) (oi := ⟨_, _, _, _, _, _⟩) (v := ?_) rfl (by kernel_rfl) (by kernel_rfl) (by kernel_rfl) (fun _ _ _ h => h) (Or.inl ⟨by rfl, ?_⟩) hH3 ?_
            rotate_left
            · intro wS hSw; (try dsimp only at hSw); go_simp; try with_reducible rfl
            try simp only [Act.put, List.setIfInBounds_toArray, List.set_cons_zero, List.set_cons_succ]
            refine wpAnyH_ready (rs := [2]) (by kernel_rfl) (by simp) ?_
            refine AllReadyH.cons (o := ⟨_, _, _, _, _, _⟩) rfl (fun K hK => ?_) ?_
            · go_simp
              (go_at_call 122; refine (times_any _ _ _ _ _ _ _ _ _ (hCa.out.d 0 rfl) (hCa.out.d 1 rfl) (Nat.le_trans HL1.out (by omega)) HL3.out).mono ?_; rintro e wb ⟨b2, k2, l2, rfl, hdd, hb⟩; have hCb := Lib.hid ((hCa.out.call hb).pd hdd); clear hdd hb)
              (try go_wp2_with fail)
              refine hK.out _ _ ?_ (fun hH4 => ?_)
              · (try dsimp only)
                all_goals (trivial)
              clear hK K hH3
              try simp only [Act.put, List.setIfInBounds_toArray, List.set_cons_zero, List.set_cons_succ]
              refine wpAnyH_ready (rs := [8]) (by kernel_rfl) (by simp) ?_
              refine AllReadyH.cons (o := ⟨_, _, _, _, _, _⟩) rfl (fun K hK => ?_) ?_
              · go_simp
                (have _t := hCb; go_at_call 119; refine (word_int _ _ (by omega) (by omega)).mono ?_; rintro e wc ⟨b3, k3, l3, rfl, hdd, hb⟩; have hCc := Lib.hid ((hCb.out.call hb).pd hdd); clear hdd hb _t)
                (try go_wp2_with fail)
                refine hK.out _ _ ?_ (fun hH5 => ?_)
                · (try dsimp only)
                  all_goals (trivial)
                clear hK K hH4
                try simp only [Act.put, List.setIfInBounds_toArray, List.set_cons_zero, List.set_cons_succ]
                refine wpAnyH_ready (rs := [9]) (by kernel_rfl) (by simp) ?_
                refine AllReadyH.cons (o := ⟨_, _, _, _, _, _⟩) rfl (fun K hK => ?_) ?_
                · go_simp
                  (go_at_call 120; refine (plus_any _ _ _ _ _ _ 1 (Dec.val (s.data.toList.take k) * 10) ((s[k].toNat : Int) - 48).toNat _ (hCc.out.d 2 rfl) (hCc.out.d 3 rfl) (.inl rfl) (by omega) (Nat.le_trans HL2.out (by omega)) HL4.out).mono ?_; rintro e wd ⟨b4, k4, l4, rfl, hdd, hb⟩; have hCd := Lib.hid ((hCc.out.call hb).pd hdd); clear hdd hb; have d10 := hCd.out.cell 1 0 rfl rfl; have e10 := hCd.out.free 1 0 rfl)
                  (try go_wp2_with fail)
                  refine hK.out _ _ ?_ (fun hH6 => ?_)
                  · (try dsimp only)
                    all_goals (trivial)
                  clear hK K hH5
                  try simp only [Act.put, List.setIfInBounds_toArray, List.set_cons_zero, List.set_cons_succ]
                  refine wpAnyH_ready (rs := [10]) (by kernel_rfl) (by simp) ?_
                  refine AllReadyH.cons (o := ⟨_, _, _, _, _, _⟩) rfl (fun K hK => ?_) ?_
                  · go_simp
                    refine hK.out _ _ ?_ (fun hH7 => ?_)
                    · (try dsimp only)
                      all_goals (trivial)
                    clear hK K hH6
                    try simp only [Act.put, List.setIfInBounds_toArray, List.set_cons_zero, List.set_cons_succ]
                    refine wpAnyH_done (by kernel_rfl) ?_ _
                    refine NoPanic.normal ?_
                    go_wp2
                    go_roundw
                    case rel =>
                      have e : ((Dec.val (s.data.toList.take k) * 10 : Nat) : Int) + 1 * (((s[k].toNat : Int) - 48).toNat : Int) = ((Dec.val (s.data.toList.take (k + 1)) : Nat) : Int) := by rw [HN.out]; omega
                      refine ⟨k + 1, b4, k4, l4, by omega, by go_num, ?_⟩
                      have h4 := hCd.out.d 4 rfl
                      rw [e, Int.toNat_natCast] at h4
                      exact ((hCd.out.pd h4).set (j := 0) (v := .slice b4 k4 l4) 1 rfl).pick [5] rfl
                    case measure => simp [intOf]; omega
                  exact AllReadyH.nil
                exact AllReadyH.nil
              exact AllReadyH.nil
            exact AllReadyH.nil
          exact AllReadyH.nil
        refine AllReadyH.cons (o := ⟨_, _, _, _, _, _⟩) rfl (fun K hK => ?_) ?_
        · go_simp
          refine hK.out _ _ ?_ (fun hH2 => ?_)
          · (try dsimp only)
            all_goals (trivial)
          clear hK K hH1
          try simp only [Act.put, List.setIfInBounds_toArray, List.set_cons_zero, List.set_cons_succ]
          refine wpAnyH_take (i := 6) (oi := ⟨_, _, _, _, _, _⟩) (v := ?_) rfl (by kernel_rfl) (by kernel_rfl) (by kernel_rfl) (fun _ _ _ h => h) (Or.inl ⟨by rfl, ?_⟩) hH2 ?_
          rotate_left
          · intro wS hSw; (try dsimp only at hSw); go_simp; try with_reducible rfl
          try simp only [Act.put, List.setIfInBounds_toArray, List.set_cons_zero, List.set_cons_succ]
          refine wpAnyH_take (i := 7) (oi := ⟨_, _, _, _, _, _⟩) (v := ?_) rfl (by kernel_rfl) (by kernel_rfl) (by kernel_rfl) (fun _ _ _ h => h) (Or.inl ⟨by rfl, ?_⟩) hH2 ?_
          rotate_left
          · intro wS hSw; (try dsimp only at hSw); go_simp; try with_reducible rfl
          try simp only [Act.put, List.setIfInBounds_toArray, List.set_cons_zero, List.set_cons_succ]
          refine wpAnyH_ready (rs := [1]) (by kernel_rfl) (by simp) ?_
          refine AllReadyH.cons (o := ⟨_, _, _, _, _, _⟩) rfl (fun K hK => ?_) ?_
          · go_simp
            (have _t := tok1; go_at_call 119; refine (word_any 10 _ (by omega)).mono ?_; rintro e wa ⟨b1, k1, l1, rfl, hdd, hb⟩; have hCa := Lib.hid ((hC.out.drew.call hb).pd hdd); clear hdd hb; have c10a := hCa.out.cell 1 0 rfl rfl; clear tok1 _t)
            (try go_wp2_with fail)
            refine hK.out _ _ ?_ (fun hH3 => ?_)
            · (try dsimp only)
              all_goals (trivial)
            clear hK K hH2
            try simp only [Act.put, List.setIfInBounds_toArray, List.set_cons_zero, List.set_cons_succ]
            refine wpAnyH_ready (rs := [2]) (by kernel_rfl) (by simp) ?_
            refine AllReadyH.cons (o := ⟨_, _, _, _, _, _⟩) rfl (fun K hK => ?_) ?_
            · go_simp
              (go_at_call 122; refine (times_any _ _ _ _ _ _ _ _ _ (hCa.out.d 0 rfl) (hCa.out.d 1 rfl) (Nat.le_trans HL1.out (by omega)) HL3.out).mono ?_; rintro e wb ⟨b2, k2, l2, rfl, hdd, hb⟩; have hCb := Lib.hid ((hCa.out.call hb).pd hdd); clear hdd hb)
              (try go_wp2_with fail)
              refine hK.out _ _ ?_ (fun hH4 => ?_)
              · (try dsimp only)
                all_goals (trivial)
              clear hK K hH3
              try simp only [Act.put, List.setIfInBounds_toArray, List.set_cons_zero, List.set_cons_succ]
              refine wpAnyH_ready (rs := [8]) (by kernel_rfl) (by simp) ?_
              refine AllReadyH.cons (o := ⟨_, _, _, _, _, _⟩) rfl (fun K hK => ?_) ?_
              · go_simp
                (have _t := hCb; go_at_call 119; refine (word_int _ _ (by omega) (by omega)).mono ?_; rintro e wc ⟨b3, k3, l3, rfl, hdd, hb⟩; have hCc := Lib.hid ((hCb.out.call hb).pd hdd); clear hdd hb _t)
                (try go_wp2_with fail)
                refine hK.out _ _ ?_ (fun hH5 => ?_)
                · (try dsimp only)
                  all_goals (trivial)
                clear hK K hH4
                try simp only [Act.put, List.setIfInBounds_toArray, List.set_cons_zero, List.set_cons_succ]
                refine wpAnyH_ready (rs := [9]) (by kernel_rfl) (by simp) ?_
                refine AllReadyH.cons (o := ⟨_, _, _, _, _, _⟩) rfl (fun K hK => ?_) ?_
                · go_simp
                  (go_at_call 120; refine (plus_any _ _ _ _ _ _ 1 (Dec.val (s.data.toList.take k) * 10) ((s[k].toNat : Int) - 48).toNat _ (hCc.out.d 2 rfl) (hCc.out.d 3 rfl) (.inl rfl) (by omega) (Nat.le_trans HL2.out (by omega)) HL4.out).mono ?_; rintro e wd ⟨b4, k4, l4, rfl, hdd, hb⟩; have hCd := Lib.hid ((hCc.out.call hb).pd hdd); clear hdd hb; have d10 := hCd.out.cell 1 0 rfl rfl; have e10 := hCd.out.free 1 0 rfl)
                  (try go_wp2_with fail)
                  refine hK.out _ _ ?_ (fun hH6 => ?_)
                  · (try dsimp only)
                    all_goals (trivial)
                  clear hK K hH5
                  try simp only [Act.put, List.setIfInBounds_toArray, List.set_cons_zero, List.set_cons_succ]
                  refine wpAnyH_ready (rs := [10]) (by kernel_rfl) (by simp) ?_
                  refine AllReadyH.cons (o := ⟨_, _, _, _, _, _⟩) rfl (fun K hK => ?_) ?_
                  · go_simp
                    refine hK.out _ _ ?_ (fun hH7 => ?_)
                    · (try dsimp only)
                      all_goals (trivial)
                    clear hK K hH6
                    try simp only [Act.put, List.setIfInBounds_toArray, List.set_cons_zero, List.set_cons_succ]
                    refine wpAnyH_done (by kernel_rfl) ?_ _
                    refine NoPanic.normal ?_
                    go_wp2
                    go_roundw
                    case rel =>
                      have e : ((Dec.val (s.data.toList.take k) * 10 : Nat) : Int) + 1 * (((s[k].toNat : Int) - 48).toNat : Int) = ((Dec.val (s.data.toList.take (k + 1)) : Nat) : Int) := by rw [HN.out]; omega
                      refine ⟨k + 1, b4, k4, l4, by omega, by go_num, ?_⟩
                      have h4 := hCd.out.d 4 rfl
                      rw [e, Int.toNat_natCast] at h4
                      exact ((hCd.out.pd h4).set (j := 0) (v := .slice b4 k4 l4) 1 rfl).pick [5] rfl
                    case measure => simp [intOf]; omega
                  exact AllReadyH.nil
                exact AllReadyH.nil
              exact AllReadyH.nil
            exact AllReadyH.nil
          exact AllReadyH.nil
        exact AllReadyH.nil
      refine AllReadyH.cons (o := ⟨_, _, _, _, _, _⟩) rfl (fun K hK => ?_) ?_
      · go_simp
        (have _t := tok1; go_at_call 119; refine (word_any 10 _ (by omega)).mono ?_; rintro e wa ⟨b1, k1, l1, rfl, hdd, hb⟩; have hCa := Lib.hid ((hC.out.drew.call hb).pd hdd); clear hdd hb; have c10a := hCa.out.cell 1 0 rfl rfl; clear tok1 _t)
        (try go_wp2_with fail)
        refine hK.out _ _ ?_ (fun hH1 => ?_)
        · (try dsimp only)
          all_goals (trivial)
        clear hK K hH0
        try simp only [Act.put, List.setIfInBounds_toArray, List.set_cons_zero, List.set_cons_succ]
        refine wpAnyH_ready (rs := [0, 5]) (by kernel_rfl) (by simp) ?_
        refine AllReadyH.cons (o := ⟨_, _, _, _, _, _⟩) rfl (fun K hK => ?_) ?_
        · go_simp
          refine hK.out _ _ ?_ (fun hH2 => ?_)
          · (try dsimp only)
            all_goals (trivial)
          clear hK K hH1
          try simp only [Act.put, List.setIfInBounds_toArray, List.set_cons_zero, List.set_cons_succ]
          refine wpAnyH_ready (rs := [2, 5]) (by kernel_rfl) (by simp) ?_
          refine AllReadyH.cons (o := ⟨_, _, _, _, _, _⟩) rfl (fun K hK => ?_) ?_
          · go_simp
            (go_at_call 122; refine (times_any _ _ _ _ _ _ _ _ _ (hCa.out.d 0 rfl) (hCa.out.d 1 rfl) (Nat.le_trans HL1.out (by omega)) HL3.out).mono ?_; rintro e wb ⟨b2, k2, l2, rfl, hdd, hb⟩; have hCb := Lib.hid ((hCa.out.call hb).pd hdd); clear hdd hb)
            (try go_wp2_with fail)
            refine hK.out _ _ ?_ (fun hH3 => ?_)
            · (try dsimp only)
              all_goals (trivial)
            clear hK K hH2
            try simp only [Act.put, List.setIfInBounds_toArray, List.set_cons_zero, List.set_cons_succ]
            refine wpAnyH_ready (rs := [5]) (by kernel_rfl) (by simp) ?_
            refine AllReadyH.cons (o := ⟨_, _, _, _, _, _⟩) rfl (fun K hK => ?_) ?_
            · go_simp
              refine hK.out _ _ ?_ (fun hH4 => ?_)
              · (try dsimp only)
                all_goals (trivial)
              clear hK K hH3
              try simp only [Act.put, List.setIfInBounds_toArray, List.set_cons_zero, List.set_cons_succ]
              refine wpAnyH_take (i := 6) (oi := ⟨_, _, _, _, _, _⟩) (v := ?_) rfl (by kernel_rfl) (by kernel_rfl) (by kernel_rfl) (fun _ _ _ h => h) (Or.inl ⟨by rfl, ?_⟩) hH4 ?_
              rotate_left
              · intro wS hSw; (try dsimp only at hSw); go_simp; try with_reducible rfl
              try simp only [Act.put, List.setIfInBounds_toArray, List.set_cons_zero, List.set_cons_succ]
              refine wpAnyH_take (i := 7) (oi := ⟨_, _, _, _, _, _⟩) (v := ?_) rfl (by kernel_rfl) (by kernel_rfl) (by kernel_rfl) (fun _ _ _ h => h) (Or.inl ⟨by rfl, ?_⟩) hH4 ?_
              rotate_left
              · intro wS hSw; (try dsimp only at hSw); go_simp; try with_reducible rfl
              try simp only [Act.put, List.setIfInBounds_toArray, List.set_cons_zero, List.set_cons_succ]
              refine wpAnyH_ready (rs := [8]) (by kernel_rfl) (by simp) ?_
              refine AllReadyH.cons (o := ⟨_, _, _, _, _, _⟩) rfl (fun K hK => ?_) ?_
              · go_simp
                (have _t := hCb; go_at_call 119; refine (word_int _ _ (by omega) (by omega)).mono ?_; rintro e wc ⟨b3, k3, l3, rfl, hdd, hb⟩; have hCc := Lib.hid ((hCb.out.call hb).pd hdd); clear hdd hb _t)
                (try go_wp2_with fail)
                refine hK.out _ _ ?_ (fun hH5 => ?_)
                · (try dsimp only)
                  all_goals (trivial)
                clear hK K hH4
                try simp only [Act.put, List.setIfInBounds_toArray, List.set_cons_zero, List.set_cons_succ]
                refine wpAnyH_ready (rs := [9]) (by kernel_rfl) (by simp) ?_
                refine AllReadyH.cons (o := ⟨_, _, _, _, _, _⟩) rfl (fun K hK => ?_) ?_
                · go_simp
                  (go_at_call 120; refine (plus_any _ _ _ _ _ _ 1 (Dec.val (s.data.toList.take k) * 10) ((s[k].toNat : Int) - 48).toNat _ (hCc.out.d 2 rfl) (hCc.out.d 3 rfl) (.inl rfl) (by omega) (Nat.le_trans HL2.out (by omega)) HL4.out).mono ?_; rintro e wd ⟨b4, k4, l4, rfl, hdd, hb⟩; have hCd := Lib.hid ((hCc.out.call hb).pd hdd); clear hdd hb; have d10 := hCd.out.cell 1 0 rfl rfl; have e10 := hCd.out.free 1 0 rfl)
                  (try go_wp2_with fail)
                  refine hK.out _ _ ?_ (fun hH6 => ?_)
                  · (try dsimp only)
                    all_goals (trivial)
                  clear hK K hH5
                  try simp only [Act.put, List.setIfInBounds_toArray, List.set_cons_zero, List.set_cons_succ]
                  refine wpAnyH_ready (rs := [10]) (by kernel_rfl) (by simp) ?_
                  refine AllReadyH.cons (o := ⟨_, _, _, _, _, _⟩) rfl (fun K hK => ?_) ?_
                  · go_simp
                    refine hK.out _ _ ?_ (fun hH7 => ?_)
                    · (try dsimp only)
                      all_goals (trivial)
                    clear hK K hH6
                    try simp only [Act.put, List.setIfInBounds_toArray, List.set_cons_zero, List.set_cons_succ]
                    refine wpAnyH_done (by kernel_rfl) ?_ _
                    refine NoPanic.normal ?_
                    go_wp2
                    go_roundw
                    case rel =>
                      have e : ((Dec.val (s.data.toList.take k) * 10 : Nat) : Int) + 1 * (((s[k].toNat : Int) - 48).toNat : Int) = ((Dec.val (s.data.toList.take (k + 1)) : Nat) : Int) := by rw [HN.out]; omega
                      refine ⟨k + 1, b4, k4, l4, by omega, by go_num, ?_⟩
                      have h4 := hCd.out.d 4 rfl
                      rw [e, Int.toNat_natCast] at h4
                      exact ((hCd.out.pd h4).set (j := 0) (v := .slice b4 k4 l4) 1 rfl).pick [5] rfl
                    case measure => simp [intOf]; omega
                  exact AllReadyH.nil
                exact AllReadyH.nil
              exact AllReadyH.nil
            exact AllReadyH.nil
          refine AllReadyH.cons (o := ⟨_, _, _, _, _, _⟩) rfl (fun K hK => ?_) ?_
          · go_simp
            refine hK.out _ _ ?_ (fun hH3 => ?_)
            · (try dsimp only)
              all_goals (trivial)
            clear hK K hH2
            try simp only [Act.put, List.setIfInBounds_toArray, List.set_cons_zero, List.set_cons_succ]
            refine wpAnyH_take (i := 6) (oi := ⟨_, _, _, _, _, _⟩) (v := ?_) rfl (by kernel_rfl) (by kernel_rfl) (by kernel_rfl) (fun _ _ _ h => h) (Or.inl ⟨by rfl, ?_⟩) hH3 ?_
            rotate_left
            · intro wS hSw; (try dsimp only at hSw); go_simp; try with_reducible rfl
            try simp only [Act.put, List.setIfInBounds_toArray, List.set_cons_zero, List.set_cons_succ]
            refine wpAnyH_take (i := 7) (oi := ⟨_, _, _, _, _, _⟩) (v := ?_) rfl (by kernel_rfl) (by kernel_rfl) (by kernel_rfl) (fun _ _ _ h => h) (Or.inl ⟨by rfl, ?_⟩) hH3 ?_
            rotate_left
            · intro wS hSw; (try dsimp only at hSw); go_simp; try with_reducible rfl
            try simp only [Act.put, List.setIfInBounds_toArray, List.set_cons_zero, List.set_cons_succ]
            refine wpAnyH_ready (rs := [2]) (by kernel_rfl) (by simp) ?_
            refine AllReadyH.cons (o := ⟨_, _, _, _, _, _⟩) rfl (fun K hK => ?_) ?_
            · go_simp
              (go_at_call 122; refine (times_any _ _ _ _ _ _ _ _ _ (hCa.out.d 0 rfl) (hCa.out.d 1 rfl) (Nat.le_trans HL1.out (by omega)) HL3.out).mono ?_; rintro e wb ⟨b2, k2, l2, rfl, hdd, hb⟩; have hCb := Lib.hid ((hCa.out.call hb).pd hdd); clear hdd hb)
              (try go_wp2_with fail)
              refine hK.out _ _ ?_ (fun hH4 => ?_)
              · (try dsimp only)
                all_goals (trivial)
              clear hK K hH3
              try simp only [Act.put, List.setIfInBounds_toArray, List.set_cons_zero, List.set_cons_succ]
              refine wpAnyH_ready (rs := [8]) (by kernel_rfl) (by simp) ?_
              refine AllReadyH.cons (o := ⟨_, _, _, _, _, _⟩) rfl (fun K hK => ?_) ?_
              · go_simp
                (have _t := hCb; go_at_call 119; refine (word_int _ _ (by omega) (by omega)).mono ?_; rintro e wc ⟨b3, k3, l3, rfl, hdd, hb⟩; have hCc := Lib.hid ((hCb.out.call hb).pd hdd); clear hdd hb _t)
                (try go_wp2_with fail)
                refine hK.out _ _ ?_ (fun hH5 => ?_)
                · (try dsimp only)
                  all_goals (trivial)
                clear hK K hH4
                try simp only [Act.put, List.setIfInBounds_toArray, List.set_cons_zero, List.set_cons_succ]
                refine wpAnyH_ready (rs := [9]) (by kernel_rfl) (by simp) ?_
                refine AllReadyH.cons (o := ⟨_, _, _, _, _, _⟩) rfl (fun K hK => ?_) ?_
                · go_simp
                  (go_at_call 120; refine (plus_any _ _ _ _ _ _ 1 (Dec.val (s.data.toList.take k) * 10) ((s[k].toNat : Int) - 48).toNat _ (hCc.out.d 2 rfl) (hCc.out.d 3 rfl) (.inl rfl) (by omega) (Nat.le_trans HL2.out (by omega)) HL4.out).mono ?_; rintro e wd ⟨b4, k4, l4, rfl, hdd, hb⟩; have hCd := Lib.hid ((hCc.out.call hb).pd hdd); clear hdd hb; have d10 := hCd.out.cell 1 0 rfl rfl; have e10 := hCd.out.free 1 0 rfl)
                  (try go_wp2_with fail)
                  refine hK.out _ _ ?_ (fun hH6 => ?_)
                  · (try dsimp only)
                    all_goals (trivial)
                  clear hK K hH5
                  try simp only [Act.put, List.setIfInBounds_toArray, List.set_cons_zero, List.set_cons_succ]
                  refine wpAnyH_ready (rs := [10]) (by kernel_rfl) (by simp) ?_
                  refine AllReadyH.cons (o := ⟨_, _, _, _, _, _⟩) rfl (fun K hK => ?_) ?_
                  · go_simp
                    refine hK.out _ _ ?_ (fun hH7 => ?_)
                    · (try dsimp only)
                      all_goals (trivial)
                    clear hK K hH6
                    try simp only [Act.put, List.setIfInBounds_toArray, List.set_cons_zero, List.set_cons_succ]
                    refine wpAnyH_done (by kernel_rfl) ?_ _
                    refine NoPanic.normal ?_
                    go_wp2
                    go_roundw
                    case rel =>
                      have e : ((Dec.val (s.data.toList.take k) * 10 : Nat) : Int) + 1 * (((s[k].toNat : Int) - 48).toNat : Int) = ((Dec.val (s.data.toList.take (k + 1)) : Nat) : Int) := by rw [HN.out]; omega
                      refine ⟨k + 1, b4, k4, l4, by omega, by go_num, ?_⟩
                      have h4 := hCd.out.d 4 rfl
                      rw [e, Int.toNat_natCast] at h4
                      exact ((hCd.out.pd h4).set (j := 0) (v := .slice b4 k4 l4) 1 rfl).pick [5] rfl
                    case measure => simp [intOf]; omega
                  exact AllReadyH.nil
                exact AllReadyH.nil
              exact AllReadyH.nil
            exact AllReadyH.nil
          exact AllReadyH.nil
        refine AllReadyH.cons (o := ⟨_, _, _, _, _, _⟩) rfl (fun K hK => ?_) ?_
        · go_simp
          refine hK.out _ _ ?_ (fun hH2 => ?_)
          · (try dsimp only)
            all_goals (trivial)
          clear hK K hH1
          try simp only [Act.put, List.setIfInBounds_toArray, List.set_cons_zero, List.set_cons_succ]
          refine wpAnyH_take (i := 6) (oi := ⟨_, _, _, _, _, _⟩) (v := ?_) rfl (by kernel_rfl) (by kernel_rfl) (by kernel_rfl) (fun _ _ _ h => h) (Or.inl ⟨by rfl, ?_⟩) hH2 ?_
          rotate_left
          · intro wS hSw; (try dsimp only at hSw); go_simp; try with_reducible rfl
          try simp only [Act.put, List.setIfInBounds_toArray, List.set_cons_zero, List.set_cons_succ]
          refine wpAnyH_take (i := 7) (oi := ⟨_, _, _, _, _, _⟩) (v := ?_) rfl (by kernel_rfl) (by kernel_rfl) (by kernel_rfl) (fun _ _ _ h => h) (Or.inl ⟨by rfl, ?_⟩) hH2 ?_
          rotate_left
          · intro wS hSw; (try dsimp only at hSw); go_simp; try with_reducible rfl
          try simp only [Act.put, List.setIfInBounds_toArray, List.set_cons_zero, List.set_cons_succ]
          refine wpAnyH_ready (rs := [0]) (by kernel_rfl) (by simp) ?_
          refine AllReadyH.cons (o := ⟨_, _, _, _, _, _⟩) rfl (fun K hK => ?_) ?_
          · go_simp
            refine hK.out _ _ ?_ (fun hH3 => ?_)
            · (try dsimp only)
              all_goals (trivial)
            clear hK K hH2
            try simp only [Act.put, List.setIfInBounds_toArray, List.set_cons_zero, List.set_cons_succ]
            refine wpAnyH_ready (rs := [2]) (by kernel_rfl) (by simp) ?_
            refine AllReadyH.cons (o := ⟨_, _, _, _, _, _⟩) rfl (fun K hK => ?_) ?_
            · go_simp
              (go_at_call 122; refine (times_any _ _ _ _ _ _ _ _ _ (hCa.out.d 0 rfl) (hCa.out.d 1 rfl) (Nat.le_trans HL1.out (by omega)) HL3.out).mono ?_; rintro e wb ⟨b2, k2, l2, rfl, hdd, hb⟩; have hCb := Lib.hid ((hCa.out.call hb).pd hdd); clear hdd hb)
              (try go_wp2_with fail)
              refine hK.out _ _ ?_ (fun hH4 => ?_)
              · (try dsimp only)
                all_goals (trivial)
              clear hK K hH3
              try simp only [Act.put, List.setIfInBounds_toArray, List.set_cons_zero, List.set_cons_succ]
              refine wpAnyH_ready (rs := [8]) (by kernel_rfl) (by simp) ?_
              refine AllReadyH.cons (o := ⟨_, _, _, _, _, _⟩) rfl (fun K hK => ?_) ?_
              · go_simp
                (have _t := hCb; go_at_call 119; refine (word_int _ _ (by omega) (by omega)).mono ?_; rintro e wc ⟨b3, k3, l3, rfl, hdd, hb⟩; have hCc := Lib.hid ((hCb.out.call hb).pd hdd); clear hdd hb _t)
                (try go_wp2_with fail)
                refine hK.out _ _ ?_ (fun hH5 => ?_)
                · (try dsimp only)
                  all_goals (trivial)
                clear hK K hH4
                try simp only [Act.put, List.setIfInBounds_toArray, List.set_cons_zero, List.set_cons_succ]
                refine wpAnyH_ready (rs := [9]) (by kernel_rfl) (by simp) ?_
                refine AllReadyH.cons (o := ⟨_, _, _, _, _, _⟩) rfl (fun K hK => ?_) ?_
                · go_simp
                  (go_at_call 120; refine (plus_any _ _ _ _ _ _ 1 (Dec.val (s.data.toList.take k) * 10) ((s[k].toNat : Int) - 48).toNat _ (hCc.out.d 2 rfl) (hCc.out.d 3 rfl) (.inl rfl) (by omega) (Nat.le_trans HL2.out (by omega)) HL4.out).mono ?_; rintro e wd ⟨b4, k4, l4, rfl, hdd, hb⟩; have hCd := Lib.hid ((hCc.out.call hb).pd hdd); clear hdd hb; have d10 := hCd.out.cell 1 0 rfl rfl; have e10 := hCd.out.free 1 0 rfl)
                  (try go_wp2_with fail)
                  refine hK.out _ _ ?_ (fun hH6 => ?_)
                  · (try dsimp only)
                    all_goals (trivial)
                  clear hK K hH5
                  try simp only [Act.put, List.setIfInBounds_toArray, List.set_cons_zero, List.set_cons_succ]
                  refine wpAnyH_ready (rs := [10]) (by kernel_rfl) (by simp) ?_
                  refine AllReadyH.cons (o := ⟨_, _, _, _, _, _⟩) rfl (fun K hK => ?_) ?_
                  · go_simp
                    refine hK.out _ _ ?_ (fun hH7 => ?_)
                    · (try dsimp only)
                      all_goals (trivial)
                    clear hK K hH6
                    try simp only [Act.put, List.setIfInBounds_toArray, List.set_cons_zero, List.set_cons_succ]
                    refine wpAnyH_done (by kernel_rfl) ?_ _
                    refine NoPanic.normal ?_
                    go_wp2
                    go_roundw
                    case rel =>
                      have e : ((Dec.val (s.data.toList.take k) * 10 : Nat) : Int) + 1 * (((s[k].toNat : Int) - 48).toNat : Int) = ((Dec.val (s.data.toList.take (k + 1)) : Nat) : Int) := by rw [HN.out]; omega
                      refine ⟨k + 1, b4, k4, l4, by omega, by go_num, ?_⟩
                      have h4 := hCd.out.d 4 rfl
                      rw [e, Int.toNat_natCast] at h4
                      exact ((hCd.out.pd h4).set (j := 0) (v := .slice b4 k4 l4) 1 rfl).pick [5] rfl
                    case measure => simp [intOf]; omega
                  exact AllReadyH.nil
                exact AllReadyH.nil
              exact AllReadyH.nil
            exact AllReadyH.nil
          exact AllReadyH.nil
        exact AllReadyH.nil
      refine AllReadyH.cons (o := ⟨_, _, _, _, _, _⟩) rfl (fun K hK => ?_) ?_
      · go_simp
        refine hK.out _ _ ?_ (fun hH1 => ?_)
        · (try dsimp only)
          all_goals (trivial)
        clear hK K hH0
        try simp only [Act.put, List.setIfInBounds_toArray, List.set_cons_zero, List.set_cons_succ]
        refine wpAnyH_take (i := 6) (oi := ⟨_, _, _, _, _, _⟩) (v := ?_) rfl (by kernel_rfl) (by kernel_rfl) (by kernel_rfl) (fun _ _ _ h => h) (Or.inl ⟨by rfl, ?_⟩) hH1 ?_
        rotate_left
        · intro wS hSw; (try dsimp only at hSw); go_simp; try with_reducible rfl
        try simp only [Act.put, List.setIfInBounds_toArray, List.set_cons_zero, List.set_cons_succ]
        refine wpAnyH_take (i := 7) (oi := ⟨_, _, _, _, _, _⟩) (v := ?_) rfl (by kernel_rfl) (by kernel_rfl) (by kernel_rfl) (fun _ _ _ h => h) (Or.inl ⟨by rfl, ?_⟩) hH1 ?_
        rotate_left
        · intro wS hSw; (try dsimp only at hSw); go_simp; try with_reducible rfl
        try simp only [Act.put, List.setIfInBounds_toArray, List.set_cons_zero, List.set_cons_succ]
        refine wpAnyH_ready (rs := [0, 1]) (by kernel_rfl) (by simp) ?_
        refine AllReadyH.cons (o := ⟨_, _, _, _, _, _⟩) rfl (fun K hK => ?_) ?_
        · go_simp
          refine hK.out _ _ ?_ (fun hH2 => ?_)
          · (try dsimp only)
            all_goals (trivial)
          clear hK K hH1
          try simp only [Act.put, List.setIfInBounds_toArray, List.set_cons_zero, List.set_cons_succ]
          refine wpAnyH_ready (rs := [1]) (by kernel_rfl) (by simp) ?_
          refine AllReadyH.cons (o := ⟨_, _, _, _, _, _⟩) rfl (fun K hK => ?_) ?_
          · go_simp
            (have _t := tok1; go_at_call 119; refine (word_any 10 _ (by omega)).mono ?_; rintro e wa ⟨b1, k1, l1, rfl, hdd, hb⟩; have hCa := Lib.hid ((hC.out.drew.call hb).pd hdd); clear hdd hb; have c10a := hCa.out.cell 1 0 rfl rfl; clear tok1 _t)
            (try go_wp2_with fail)
            refine hK.out _ _ ?_ (fun hH3 => ?_)
            · (try dsimp only)
              all_goals (trivial)
            clear hK K hH2
            try simp only [Act.put, List.setIfInBounds_toArray, List.set_cons_zero, List.set_cons_succ]
            refine wpAnyH_ready (rs := [2]) (by kernel_rfl) (by simp) ?_
            refine AllReadyH.cons (o := ⟨_, _, _, _, _, _⟩) rfl (fun K hK => ?_) ?_
            · go_simp
              (go_at_call 122; refine (times_any _ _ _ _ _ _ _ _ _ (hCa.out.d 0 rfl) (hCa.out.d 1 rfl) (Nat.le_trans HL1.out (by omega)) HL3.out).mono ?_; rintro e wb ⟨b2, k2, l2, rfl, hdd, hb⟩; have hCb := Lib.hid ((hCa.out.call hb).pd hdd); clear hdd hb)
              (try go_wp2_with fail)
              refine hK.out _ _ ?_ (fun hH4 => ?_)
              · (try dsimp only)
                all_goals (trivial)
              clear hK K hH3
              try simp only [Act.put, List.setIfInBounds_toArray, List.set_cons_zero, List.set_cons_succ]
              refine wpAnyH_ready (rs := [8]) (by kernel_rfl) (by simp) ?_
              refine AllReadyH.cons (o := ⟨_, _, _, _, _, _⟩) rfl (fun K hK => ?_) ?_
              · go_simp
                (have _t := hCb; go_at_call 119; refine (word_int _ _ (by omega) (by omega)).mono ?_; rintro e wc ⟨b3, k3, l3, rfl, hdd, hb⟩; have hCc := Lib.hid ((hCb.out.call hb).pd hdd); clear hdd hb _t)
                (try go_wp2_with fail)
                refine hK.out _ _ ?_ (fun hH5 => ?_)
                · (try dsimp only)
                  all_goals (trivial)
                clear hK K hH4
                try simp only [Act.put, List.setIfInBounds_toArray, List.set_cons_zero, List.set_cons_succ]
                refine wpAnyH_ready (rs := [9]) (by kernel_rfl) (by simp) ?_
                refine AllReadyH.cons (o := ⟨_, _, _, _, _, _⟩) rfl (fun K hK => ?_) ?_
                · go_simp
                  (go_at_call 120; refine (plus_any _ _ _ _ _ _ 1 (Dec.val (s.data.toList.take k) * 10) ((s[k].toNat : Int) - 48).toNat _ (hCc.out.d 2 rfl) (hCc.out.d 3 rfl) (.inl rfl) (by omega) (Nat.le_trans HL2.out (by omega)) HL4.out).mono ?_; rintro e wd ⟨b4, k4, l4, rfl, hdd, hb⟩; have hCd := Lib.hid ((hCc.out.call hb).pd hdd); clear hdd hb; have d10 := hCd.out.cell 1 0 rfl rfl; have e10 := hCd.out.free 1 0 rfl)
                  (try go_wp2_with fail)
                  refine hK.out _ _ ?_ (fun hH6 => ?_)
                  · (try dsimp only)
                    all_goals (trivial)
                  clear hK K hH5
                  try simp only [Act.put, List.setIfInBounds_toArray, List.set_cons_zero, List.set_cons_succ]
                  refine wpAnyH_ready (rs := [10]) (by kernel_rfl) (by simp) ?_
                  refine AllReadyH.cons (o := ⟨_, _, _, _, _, _⟩) rfl (fun K hK => ?_) ?_
                  · go_simp
                    refine hK.out _ _ ?_ (fun hH7 => ?_)
                    · (try dsimp only)
                      all_goals (trivial)
                    clear hK K hH6
                    try simp only [Act.put, List.setIfInBounds_toArray, List.set_cons_zero, List.set_cons_succ]
                    refine wpAnyH_done (by kernel_rfl) ?_ _
                    refine NoPanic.normal ?_
                    go_wp2
                    go_roundw
                    case rel =>
                      have e : ((Dec.val (s.data.toList.take k) * 10 : Nat) : Int) + 1 * (((s[k].toNat : Int) - 48).toNat : Int) = ((Dec.val (s.data.toList.take (k + 1)) : Nat) : Int) := by rw [HN.out]; omega
                      refine ⟨k + 1, b4, k4, l4, by omega, by go_num, ?_⟩
                      have h4 := hCd.out.d 4 rfl
                      rw [e, Int.toNat_natCast] at h4
                      exact ((hCd.out.pd h4).set (j := 0) (v := .slice b4 k4 l4) 1 rfl).pick [5] rfl
                    case measure => simp [intOf]; omega
                  exact AllReadyH.nil
                exact AllReadyH.nil
              exact AllReadyH.nil
            exact AllReadyH.nil
          exact AllReadyH.nil
        refine AllReadyH.cons (o := ⟨_, _, _, _, _, _⟩) rfl (fun K hK => ?_) ?_
        · go_simp
          (have _t := tok1; go_at_call 119; refine (word_any 10 _ (by omega)).mono ?_; rintro e wa ⟨b1, k1, l1, rfl, hdd, hb⟩; have hCa := Lib.hid ((hC.out.drew.call hb).pd hdd); clear hdd hb; have c10a := hCa.out.cell 1 0 rfl rfl; clear tok1 _t)
          (try go_wp2_with fail)
          refine hK.out _ _ ?_ (fun hH2 => ?_)
          · (try dsimp only)
            all_goals (trivial)
          clear hK K hH1
          try simp only [Act.put, List.setIfInBounds_toArray, List.set_cons_zero, List.set_cons_succ]
          refine wpAnyH_ready (rs := [0]) (by kernel_rfl) (by simp) ?_
          refine AllReadyH.cons (o := ⟨_, _, _, _, _, _⟩) rfl (fun K hK => ?_) ?_
          · go_simp
            refine hK.out _ _ ?_ (fun hH3 => ?_)
            · (try dsimp only)
              all_goals (trivial)
            clear hK K hH2
            try simp only [Act.put, List.setIfInBounds_toArray, List.set_cons_zero, List.set_cons_succ]
            refine wpAnyH_ready (rs := [2]) (by kernel_rfl) (by simp) ?_
            refine AllReadyH.cons (o := ⟨_, _, _, _, _, _⟩) rfl (fun K hK => ?_) ?_
            · go_simp
              (go_at_call 122; refine (times_any _ _ _ _ _ _ _ _ _ (hCa.out.d 0 rfl) (hCa.out.d 1 rfl) (Nat.le_trans HL1.out (by omega)) HL3.out).mono ?_; rintro e wb ⟨b2, k2, l2, rfl, hdd, hb⟩; have hCb := Lib.hid ((hCa.out.call hb).pd hdd); clear hdd hb)
              (try go_wp2_with fail)
              refine hK.out _ _ ?_ (fun hH4 => ?_)
              · (try dsimp only)
                all_goals (trivial)
              clear hK K hH3
              try simp only [Act.put, List.setIfInBounds_toArray, List.set_cons_zero, List.set_cons_succ]
              refine wpAnyH_ready (rs := [8]) (by kernel_rfl) (by simp) ?_
              refine AllReadyH.cons (o := ⟨_, _, _, _, _, _⟩) rfl (fun K hK => ?_) ?_
              · go_simp
                (have _t := hCb; go_at_call 119; refine (word_int _ _ (by omega) (by omega)).mono ?_; rintro e wc ⟨b3, k3, l3, rfl, hdd, hb⟩; have hCc := Lib.hid ((hCb.out.call hb).pd hdd); clear hdd hb _t)
                (try go_wp2_with fail)
                refine hK.out _ _ ?_ (fun hH5 => ?_)
                · (try dsimp only)
                  all_goals (trivial)
                clear hK K hH4
                try simp only [Act.put, List.setIfInBounds_toArray, List.set_cons_zero, List.set_cons_succ]
                refine wpAnyH_ready (rs := [9]) (by kernel_rfl) (by simp) ?_
                refine AllReadyH.cons (o := ⟨_, _, _, _, _, _⟩) rfl (fun K hK => ?_) ?_
                · go_simp
                  (go_at_call 120; refine (plus_any _ _ _ _ _ _ 1 (Dec.val (s.data.toList.take k) * 10) ((s[k].toNat : Int) - 48).toNat _ (hCc.out.d 2 rfl) (hCc.out.d 3 rfl) (.inl rfl) (by omega) (Nat.le_trans HL2.out (by omega)) HL4.out).mono ?_; rintro e wd ⟨b4, k4, l4, rfl, hdd, hb⟩; have hCd := Lib.hid ((hCc.out.call hb).pd hdd); clear hdd hb; have d10 := hCd.out.cell 1 0 rfl rfl; have e10 := hCd.out.free 1 0 rfl)
                  (try go_wp2_with fail)
                  refine hK.out _ _ ?_ (fun hH6 => ?_)
                  · (try dsimp only)
                    all_goals (trivial)
                  clear hK K hH5
                  try simp only [Act.put, List.setIfInBounds_toArray, List.set_cons_zero, List.set_cons_succ]
                  refine wpAnyH_ready (rs := [10]) (by kernel_rfl) (by simp) ?_
                  refine AllReadyH.cons (o := ⟨_, _, _, _, _, _⟩) rfl (fun K hK => ?_) ?_
                  · go_simp
                    refine hK.out _ _ ?_ (fun hH7 => ?_)
                    · (try dsimp only)
                      all_goals (trivial)
                    clear hK K hH6
                    try simp only [Act.put, List.setIfInBounds_toArray, List.set_cons_zero, List.set_cons_succ]
                    refine wpAnyH_done (by kernel_rfl) ?_ _
                    refine NoPanic.normal ?_
                    go_wp2
                    go_roundw
                    case rel =>
                      have e : ((Dec.val (s.data.toList.take k) * 10 : Nat) : Int) + 1 * (((s[k].toNat : Int) - 48).toNat : Int) = ((Dec.val (s.data.toList.take (k + 1)) : Nat) : Int) := by rw [HN.out]; omega
                      refine ⟨k + 1, b4, k4, l4, by omega, by go_num, ?_⟩
                      have h4 := hCd.out.d 4 rfl
                      rw [e, Int.toNat_natCast] at h4
                      exact ((hCd.out.pd h4).set (j := 0) (v := .slice b4 k4 l4) 1 rfl).pick [5] rfl
                    case measure => simp [intOf]; omega
                  exact AllReadyH.nil
                exact AllReadyH.nil
              exact AllReadyH.nil
            exact AllReadyH.nil
          exact AllReadyH.nil
        exact AllReadyH.nil
      exact AllReadyH.nil
    · obtain rfl : k = s.size := by omega
      have c10 := hC.out.cell 1 0 rfl rfl
      have c00 := hC.out.cell 0 0 rfl rfl
      have f00 := hC.out.free 0 0 rfl
      go_wp2
      refine ret_st (hC.out.set 0 rfl) (v := .agg #[.slice a n c]) (fun hF => ?_) rfl (fun hF => ⟨a, n, c, rfl, ?_, hF.be⟩)
      · have e0 := hF.cell 0 0 rfl rfl
        simp [results, Tryz.results112, go_sem, e0]
      · have := hF.d 0 rfl
        rw [List.take_of_length_le (by simp)] at this
        exact this

end Go.Proofs.YtmfplelodnoicaaGreatDoor
namespace Go.Proofs.YtmfplelodnoicaaGreatDoor
open Go.RowKit Dig

def tens : List UInt8 := [48, 49, 50, 51, 52, 53, 54, 55, 56, 57]
theorem tens_dig (c : UInt8) : tens.contains c = Dec.isDig c := by
  rw [Bool.eq_iff_iff, List.contains_iff_mem]
  unfold Dec.isDig tens
  simp only [List.mem_cons, List.not_mem_nil, or_false, Bool.and_eq_true, decide_eq_true_eq, ← UInt8.toNat_inj]
  show (c.toNat = 48 ∨ c.toNat = 49 ∨ c.toNat = 50 ∨ c.toNat = 51 ∨ c.toNat = 52 ∨ c.toNat = 53 ∨ c.toNat = 54 ∨ c.toNat = 55 ∨ c.toNat = 56 ∨ c.toNat = 57) ↔ _
  omega
theorem dw_nil {α : Type} {p : α → Bool} {l : List α} : l.dropWhile p = [] ↔ ∀ x ∈ l, p x = true := by
  induction l with
  | nil => simp
  | cons a l ih =>
    rw [List.dropWhile_cons]
    by_cases h : p a = true
    · rw [if_pos h, ih]; simp [h]
    · rw [if_neg h]; simp [h]
theorem trim_nil (l : List UInt8) : Lib.trimS l tens = [] ↔ l.all Dec.isDig = true := by
  have e : (fun c : UInt8 => tens.contains c) = Dec.isDig := funext tens_dig
  unfold Lib.trimS Lib.trimLeftS Lib.trimRightS
  rw [e]
  constructor
  · intro h
    cases hx : l.reverse.dropWhile Dec.isDig with
    | nil =>
      rw [List.all_eq_true]
      intro c hc
      have : ∀ x ∈ l.reverse, Dec.isDig x = true := by
        intro x hxm
        have := dw_nil.1 hx
        exact this x hxm
      exact this c (by simpa using hc)
    | cons y r =>
      exfalso
      have hy : Dec.isDig y = false := by
        have := List.head_dropWhile_not (p := Dec.isDig) (w := by rw [hx]; simp) (l := l.reverse)
        simpa [hx] using this
      rw [hx] at h
      have := dw_nil.1 h y (by simp)
      rw [hy] at this
      exact Bool.noConfusion this
  · intro h
    have h1 : l.reverse.dropWhile Dec.isDig = [] := dw_nil.2 (fun x hx => List.all_eq_true.1 h x (by simpa using hx))
    rw [h1]; rfl
theorem trim_digits (s : ByteArray) (w : World) (hs : s.size ≤ 100000) :
    Calls Tryz.prog 135 #[.string s, .string ⟨#[48, 49, 50, 51, 52, 53, 54, 55, 56, 57]⟩] w fun e w' => e = .returned (.string ⟨(Lib.trimS s.data.toList tens).toArray⟩) ∧ Below w.heap.size w w' :=
  Any.strings_Trim_laid Tryz.lays160 (by kernel_rfl) s ⟨#[48, 49, 50, 51, 52, 53, 54, 55, 56, 57]⟩ w (by omega) (by decide) (ascii_of_all (by decide))

theorem empty_iff (s : ByteArray) : s.toList.isEmpty = s.data.toList.isEmpty := by rw [Lib.toList_data]

set_option maxRecDepth 100000 in
set_option maxHeartbeats 1000000 in
theorem isDigits_any (s : ByteArray) (w : World) (hs : s.size ≤ 100000) :
    Calls Tryz.prog 111 #[.string s] w fun e w' => e = .returned (.bool (Dec.isDec s.data.toList)) ∧ Below w.heap.size w w' := by
  by_cases h0 : s.data.toList = []
  · obtain rfl : s = ⟨#[]⟩ := by
      cases s; rename_i d; congr; exact Array.toList_inj.1 h0
    go_enter Tryz.func111, Tryz.ntmps111
    go_wp2
    go_ret
    exact ⟨rfl, Below.refl _ _⟩
  · have h1 : s.toList.isEmpty = false := by rw [empty_iff]; cases e : s.data.toList with | nil => exact absurd e h0 | cons => rfl
    have HE := Lib.hid (show s.data.toList.isEmpty = false from by rw [← empty_iff]; exact h1)
    have hsz : 0 < s.size := by
      have : 0 < s.data.toList.length := List.length_pos_iff.2 h0
      simpa using this
    have hsz' : (0 : Int) < (s.size : Int) := by omega
    clear h0
    by_cases hd : s.data.toList.all Dec.isDig = true
    · have HD := Lib.hid hd
      have HT := Lib.hid ((trim_nil _).2 hd)
      clear hd
      by_cases h1s : s.size = 1
      · have H1 := Lib.hid h1s
        have h1i : (((s.size : Nat) : Int) == 1) = true := by simp [h1s]
        clear h1s
        go_enter Tryz.func111, Tryz.ntmps111
        go_wp2_with fail
        refine (trim_digits s _ hs).mono ?_
        rintro e w' ⟨rfl, hb⟩
        rw [HT.out]
        go_wp2
        go_ret
        exact ⟨ret_bool (by unfold Dec.isDec; rw [HE.out, HD.out, show s.data.toList.length = 1 from by simpa using H1.out]; rfl), hb⟩
      · have h1i : (((s.size : Nat) : Int) == 1) = false := by simpa using fun e => h1s (by omega)
        have H1 := Lib.hid h1s
        have HH := Lib.hid (show s.data.toList.head? = some s[0] from by
          rw [ByteArray.getElem_eq_getElem_data, List.head?_eq_getElem?, List.getElem?_eq_getElem (by simpa using hsz)]; simp)
        clear h1s
        by_cases hc : s[0] = 48
        · have hci : (((s[0].toNat : Nat) : Int) != 48) = false := by rw [hc]; rfl
          have HC := Lib.hid hc
          clear hc
          go_enter Tryz.func111, Tryz.ntmps111
          go_wp2_with fail
          refine (trim_digits s _ hs).mono ?_
          rintro e w' ⟨rfl, hb⟩
          rw [HT.out]
          go_wp2
          go_ret
          exact ⟨ret_bool (by unfold Dec.isDec; rw [HE.out, HD.out, HH.out, HC.out, show (s.data.toList.length == 1) = false from by simpa using H1.out]; rfl), hb⟩
        · have hci : (((s[0].toNat : Nat) : Int) != 48) = true := by
            simp only [bne_iff_ne, ne_eq]
            intro e
            exact hc (UInt8.toNat_inj.1 (by show s[0].toNat = 48; omega))
          have HC := Lib.hid hc
          clear hc
          go_enter Tryz.func111, Tryz.ntmps111
          go_wp2_with fail
          refine (trim_digits s _ hs).mono ?_
          rintro e w' ⟨rfl, hb⟩
          rw [HT.out]
          go_wp2
          go_ret
          exact ⟨ret_bool (by unfold Dec.isDec; rw [HE.out, HD.out, HH.out]; have := HC.out; simp [this]), hb⟩
    · have HD := Lib.hid hd
      have ht := mt (trim_nil _).1 hd
      obtain ⟨T, hT⟩ : ∃ T : ByteArray, T = ⟨(Lib.trimS s.data.toList tens).toArray⟩ := ⟨_, rfl⟩
      have hTe : T.toList.isEmpty = false := by
        rw [hT, empty_iff]
        cases e : Lib.trimS s.data.toList tens with
        | nil => exact absurd e ht
        | cons => rfl
      have hTe' : (!T.toList.isEmpty) = true := by rw [hTe]; rfl
      have HT := Lib.hid hT
      clear hd ht hT
      go_enter Tryz.func111, Tryz.ntmps111
      go_wp2_with fail
      refine (trim_digits s _ hs).mono ?_
      rintro e w' ⟨rfl, hb⟩
      rw [← HT.out]
      go_wp2
      go_ret
      exact ⟨ret_bool (by unfold Dec.isDec; rw [HE.out, show s.data.toList.all Dec.isDig = false from by simpa using HD.out]; rfl), hb⟩

end Go.Proofs.YtmfplelodnoicaaGreatDoor
namespace Go.Proofs.YtmfplelodnoicaaGreatDoor
open Go.RowKit Dig

/-- the result is the integer z, and an errno -/
def RetZE (w : World) (z : Int) (k : Int) (e : Ending) (w' : World) : Prop := ∃ a n c m, e = .returned (.tuple #[.agg #[.slice a n c, .bool m], .int .i64 k]) ∧ Zd w' (.slice a n c) m z ∧ Below w.heap.size w w'

theorem Zd.nil {w : World} : Zd w (.slice none 0 0) false 0 := ⟨by unfold Dg; rw [Int.natAbs_zero, dg_zero]; exact Sl.nil, by simp⟩

/-- what ParseZ answers -/
def zres (l : List UInt8) : Int × Int := if 1000 < l.length then (0, 5) else match Dec.zread l with | some z => (z, 0) | none => (0, 4)

theorem zread_eq (l : List UInt8) : Dec.zread l = if Dec.isDec (Lib.trimPrefix l [45]) then some (if Lib.hasPrefix l [45] = true then -((Dec.val (Lib.trimPrefix l [45]) : Nat) : Int) else ((Dec.val (Lib.trimPrefix l [45]) : Nat) : Int)) else none := by
  unfold Dec.zread
  split
  · rename_i r
    simp [Lib.trimPrefix, Lib.hasPrefix, List.isPrefixOf]
  · rename_i h
    have hp : Lib.hasPrefix l [45] = false := by
      unfold Lib.hasPrefix
      cases l with
      | nil => rfl
      | cons x r =>
        simp only [List.isPrefixOf, Bool.and_true, beq_eq_false_iff_ne, ne_eq]
        intro e
        exact h r (by rw [← e])
    simp [Lib.trimPrefix, hp]

theorem trimPrefix_len (l : List UInt8) : (Lib.trimPrefix l [45]).length ≤ l.length := by
  unfold Lib.trimPrefix; split
  · simp
  · exact Nat.le_refl _

set_option maxRecDepth 100000 in
set_option maxHeartbeats 1000000 in
theorem parseZ_any (s : ByteArray) (w : World) (hs : s.size ≤ 100000) :
    Calls Tryz.prog 21 #[.string s] w (RetZE w (zres s.data.toList).1 (zres s.data.toList).2) := by
  have hC := Lib.hid ((St.enter w).al w.heap.size #[.slice none 0 0, .bool false] 28 rfl rfl)
  have hsl : s.data.toList.length = s.size := by simp
  by_cases h1 : 1000 < s.size
  · have HR := Lib.hid (show zres s.data.toList = (0, 5) from by unfold zres; rw [if_pos (by rw [hsl]; exact h1)])
    clear hsl
    go_enter Tryz.func21, Tryz.ntmps21
    go_wp2
    refine ret_st hC.out (v := .tuple #[.agg #[.slice none 0 0, .bool false], .int .i64 5]) (fun hF => ?_) rfl (fun hF => ⟨none, 0, 0, false, by rw [HR.out], by rw [HR.out]; exact Zd.nil, hF.be⟩)
    have e0 := hF.cell 0 0 rfl rfl
    have e1 := hF.cell 0 1 rfl rfl
    simp [results, Tryz.results21, go_sem, e0, e1]
  · have HZ := Lib.hid (show zres s.data.toList = match Dec.zread s.data.toList with | some z => (z, 0) | none => (0, 4) from by unfold zres; rw [if_neg (by rw [hsl]; exact h1)])
    have HQ := Lib.hid (zread_eq s.data.toList)
    have hle := trimPrefix_len s.data.toList
    obtain ⟨T, hT⟩ : ∃ T : ByteArray, T = ⟨(Lib.trimPrefix s.data.toList [45]).toArray⟩ := ⟨_, rfl⟩
    have HT := Lib.hid hT
    have HTL := Lib.hid (show T.data.toList = Lib.trimPrefix s.data.toList [45] from by rw [hT])
    have HTS := Lib.hid (show T.size ≤ 1000 from by rw [hT]; show (Lib.trimPrefix s.data.toList [45]).toArray.size ≤ 1000; simp only [List.size_toArray]; omega)
    obtain ⟨m, hm⟩ : ∃ m : Bool, m = Lib.hasPrefix s.data.toList [45] := ⟨_, rfl⟩
    have HM := Lib.hid hm
    clear hsl hle hT hm
    go_enter Tryz.func21, Tryz.ntmps21
    go_wp2_with fail
    refine (Tryz.strings_CutPrefix s ⟨#[45]⟩ _).mono ?_
    rintro e w1 ⟨rfl, rfl⟩
    have e1 : (⟨(Lib.trimPrefix s.data.toList (⟨#[45]⟩ : ByteArray).data.toList).toArray⟩ : ByteArray) = T := HT.out.symm
    have e2 : Lib.hasPrefix s.data.toList (⟨#[45]⟩ : ByteArray).data.toList = m := HM.out.symm
    rw [e1, e2]
    clear e1 e2
    go_wp2_with fail
    refine (isDigits_any T _ (by have := HTS.out; omega)).mono ?_
    rintro e w2 ⟨rfl, hb⟩
    have hC2 := Lib.hid (hC.out.call hb)
    clear hC hb
    by_cases hd : Dec.isDec T.data.toList = true
    · have HD := Lib.hid hd
      rw [hd]
      clear hd
      have c0 := hC2.out.cell 0 0 rfl rfl
      have c1 := hC2.out.cell 0 1 rfl rfl
      have f0 := hC2.out.free 0 0 rfl
      have f1 := hC2.out.free 0 1 rfl
      go_wp2_with fail
      refine (read_any T _ (fun c hc => ?_) (by have := HTS.out; omega)).mono ?_
      · have := HD.out
        unfold Dec.isDec at this
        simp only [Bool.and_eq_true] at this
        exact List.all_eq_true.1 this.1.2 c hc
      rintro e w3 ⟨b1, k1, l1, rfl, hdd, hb⟩
      have hC3 := Lib.hid ((hC2.out.call hb).pd hdd)
      clear hb hdd c0 c1 f0 f1 hC2
      go_wp2_with fail
      refine (made_any m b1 k1 l1 _ _ (hC3.out.d 0 rfl) _ rfl).mono ?_
      rintro e w4 ⟨b2, k2, l2, m2, rfl, hz, hb⟩
      have hC4 := Lib.hid ((hC3.out.call hb).pz hz)
      clear hb hz hC3
      have c0 := hC4.out.cell 0 0 rfl rfl
      have c1 := hC4.out.cell 0 1 rfl rfl
      have f0 := hC4.out.free 0 0 rfl
      have f1 := hC4.out.free 0 1 rfl
      go_wp2
      refine ret_st (hC4.out.set 0 rfl |>.set 0 rfl) (v := .tuple #[.agg #[.slice b2 k2 l2, .bool m2], .int .i64 0]) (fun hF => ?_) rfl (fun hF => ⟨b2, k2, l2, m2, ?_, ?_, hF.be⟩)
      · have e0 := hF.cell 0 0 rfl rfl
        have e1 := hF.cell 0 1 rfl rfl
        simp [results, Tryz.results21, go_sem, e0, e1]
      · rw [HZ.out, HQ.out, ← HTL.out, ← HM.out, HD.out]; rfl
      · have := hF.z 1 rfl
        rw [HZ.out, HQ.out, ← HTL.out, ← HM.out, HD.out]; exact this
    · have hd' : Dec.isDec T.data.toList = false := by simpa using hd
      have HD := Lib.hid hd'
      rw [hd']
      clear hd hd'
      have c0 := hC2.out.cell 0 0 rfl rfl
      have c1 := hC2.out.cell 0 1 rfl rfl
      have f0 := hC2.out.free 0 0 rfl
      have f1 := hC2.out.free 0 1 rfl
      go_wp2
      refine ret_st (hC2.out.set 0 rfl |>.set 0 rfl) (v := .tuple #[.agg #[.slice none 0 0, .bool false], .int .i64 4]) (fun hF => ?_) rfl (fun hF => ⟨none, 0, 0, false, ?_, ?_, hF.be⟩)
      · have e0 := hF.cell 0 0 rfl rfl
        have e1 := hF.cell 0 1 rfl rfl
        simp [results, Tryz.results21, go_sem, e0, e1]
      · rw [HZ.out, HQ.out, ← HTL.out, ← HM.out, HD.out]; rfl
      · rw [HZ.out, HQ.out, ← HTL.out, ← HM.out, HD.out]; exact Zd.nil

theorem ret_str {a b : ByteArray} (h : a = b) : Ending.returned (.string a) = .returned (.string b) := by rw [h]
theorem ba_append (a b : List UInt8) : (⟨a.toArray⟩ : ByteArray) ++ ⟨b.toArray⟩ = ⟨(a ++ b).toArray⟩ := by
  apply ByteArray.ext; simp [ByteArray.data_append]
theorem dec_len_m (m : Nat) {k : Nat} {z : Int} (h : Bd k z) (hk : k ≤ m) : (Dec.dec z.natAbs).length ≤ m + 1 := by
  refine Dec.dec_len (Nat.lt_of_lt_of_le (h.mono hk) (Nat.le_trans (Nat.pow_le_pow_left (show 2 ≤ 10 by omega) _) (Nat.pow_le_pow_right (by omega) (by omega))))
theorem dec_len_bd {k : Nat} {z : Int} (h : Bd k z) (hk : k ≤ 1000000) : (Dec.dec z.natAbs).length ≤ 1000001 := dec_len_m 1000000 h hk
theorem ztext_len {k : Nat} {z : Int} (h : Bd k z) (hk : k ≤ 1000000) : (Dec.ztext z).length ≤ 1000002 := by
  have := dec_len_bd h hk
  unfold Dec.ztext
  split
  · rw [List.length_cons]; omega
  · omega

set_option maxRecDepth 100000 in
set_option maxHeartbeats 1000000 in
theorem ztext_any (a : Option Addr) (n c : Nat) (m : Bool) (z : Int) (w : World) (h : Zd w (.slice a n c) m z) (k : Nat) (hb : Bd k z) (hk : k ≤ 1000000) :
    Calls Tryz.prog 29 #[.agg #[.slice a n c, .bool m]] w fun e w' => e = .returned (.string ⟨(Dec.ztext z).toArray⟩) ∧ Below w.heap.size w w' := by
  have hC := Lib.hid (((St.enter w).pz h).al w.heap.size #[.slice a n c, .bool m] 28 rfl rfl)
  have HL := Lib.hid (hb.len hk)
  have hm := h.m
  have hlen := dec_len_bd hb hk
  clear h hb
  by_cases hz : z < 0
  · obtain rfl : m = true := by rw [hm]; simpa using hz
    have HT := Lib.hid (show Dec.ztext z = 45 :: Dec.dec z.natAbs from by unfold Dec.ztext; rw [if_pos hz])
    clear hm hz
    go_enter Tryz.func29, Tryz.ntmps29
    have c0 := hC.out.cell 0 0 rfl rfl
    go_wp2_with fail
    refine (text_any _ _ _ _ _ (hC.out.zd 0 rfl) HL.out).mono ?_
    rintro e w1 ⟨rfl, hb⟩
    have hC1 := Lib.hid (hC.out.call hb)
    clear hC hb c0
    go_wp2
    go_ret
    exact ⟨ret_str (by rw [HT.out]; exact ba_append [45] _), hC1.out.be⟩
  · obtain rfl : m = false := by rw [hm]; simpa using hz
    have HT := Lib.hid (show Dec.ztext z = Dec.dec z.natAbs from by unfold Dec.ztext; rw [if_neg hz])
    clear hm hz
    go_enter Tryz.func29, Tryz.ntmps29
    have c0 := hC.out.cell 0 0 rfl rfl
    go_wp2_with fail
    refine (text_any _ _ _ _ _ (hC.out.zd 0 rfl) HL.out).mono ?_
    rintro e w1 ⟨rfl, hb⟩
    have hC1 := Lib.hid (hC.out.call hb)
    clear hC hb c0
    go_wp2
    go_ret
    exact ⟨by rw [HT.out]; rfl, hC1.out.be⟩

/-- what Int64 answers -/
def i64res (z : Int) : Int × Bool := if -9223372036854775808 ≤ z ∧ z ≤ 9223372036854775807 then (z, true) else (0, false)
theorem sgn_neg {z : Int} (h : z < 0) : sgn z = -1 := by unfold sgn; rw [if_neg (by omega), if_pos h]
theorem sgn_nonneg {z : Int} (h : 0 ≤ z) : 0 ≤ sgn z := by unfold sgn; split; omega; split <;> omega
theorem sgn_pos {z : Int} (h : 0 < z) : sgn z = 1 := by unfold sgn; rw [if_neg (by omega), if_neg (by omega)]
theorem sgn_nonpos {z : Int} (h : z ≤ 0) : sgn z ≤ 0 := by unfold sgn; split; omega; split <;> omega

set_option maxRecDepth 100000 in
set_option maxHeartbeats 2000000 in
theorem int64_any (a : Option Addr) (n c : Nat) (m : Bool) (z : Int) (w : World) (h : Zd w (.slice a n c) m z) (k : Nat) (hb : Bd k z) (hk : k ≤ 1000000) :
    Calls Tryz.prog 33 #[.agg #[.slice a n c, .bool m]] w fun e w' => e = .returned (.tuple #[.int .i64 (i64res z).1, .bool (i64res z).2]) ∧ Below w.heap.size w w' := by
  have hC := Lib.hid (((St.enter w).pz h).al w.heap.size #[.slice a n c, .bool m] 28 rfl rfl)
  have HL := Lib.hid (Nat.le_trans (hb.len hk) (show 50000 ≤ 10000000 by omega))
  have HLm := Lib.hid (Nat.le_trans ((Bd.i64 (k := -9223372036854775808) (by omega)).len (by omega)) (show 50000 ≤ 10000000 by omega))
  have HLx := Lib.hid (Nat.le_trans ((Bd.i64 (k := 9223372036854775807) (by omega)).len (by omega)) (show 50000 ≤ 10000000 by omega))
  have HM := Lib.hid h.m
  clear h hb
  by_cases h1 : z < -9223372036854775808
  · have V1 := Lib.hid (sgn_neg (z := z - -9223372036854775808) (by omega))
    have HR := Lib.hid (show i64res z = (0, false) from by unfold i64res; rw [if_neg (by omega)])
    clear h1
    go_enter Tryz.func33, Tryz.ntmps33
    have x0 := hC.out.cell 0 0 rfl rfl
    have x1 := hC.out.cell 0 1 rfl rfl
    go_wp2
    go_region_with (first
      | (go_at_call 31; refine (cmp_any _ _ _ _ _ _ _ _ _ _ _ (hCa.out.z 0 rfl) (hCa.out.z 1 rfl) HL.out HLm.out).mono ?_; rintro e wb ⟨rfl, hb⟩; have hCb := Lib.hid (hCa.out.call hb); clear hb; rw [V1.out])
      | (go_at_call 35; refine (int_any (-9223372036854775808) (by omega) _).mono ?_; rintro e wa ⟨ba, ka, la, ma, rfl, hza, hb⟩; have hCa := Lib.hid ((hC.out.drew.call hb).pz hza); clear hza hb; have y0 := hCa.out.cell 0 0 rfl rfl; have y1 := hCa.out.cell 0 1 rfl rfl))
    all_goals
      go_wp2
      go_ret2
      exact ⟨by rw [HR.out]; rfl, hCb.out.be⟩
  · obtain ⟨v, hv⟩ : ∃ v : Int, sgn (z - -9223372036854775808) = v := ⟨_, rfl⟩
    have d1 : decide (v < 0) = false := by have := sgn_nonneg (z := z - -9223372036854775808) (by omega); simp; omega
    have V1 := Lib.hid hv
    clear hv
    by_cases h2 : 9223372036854775807 < z
    · have V2 := Lib.hid (sgn_pos (z := z - 9223372036854775807) (by omega))
      have HR := Lib.hid (show i64res z = (0, false) from by unfold i64res; rw [if_neg (by omega)])
      clear h1 h2
      go_enter Tryz.func33, Tryz.ntmps33
      go_wp2
      go_region_held3 (fun w' => w'.cell? ⟨w.heap.size, 0, none⟩ = some (.slice a n c) ∧ w'.cell? ⟨w.heap.size, 1, none⟩ = some (.bool m) ∧ True)
        (first
          | (with_reducible refine And.intro (?_ : World.cell? wd _ = _) ?_; exact hCd.out.cell 0 0 rfl rfl; exact ⟨hCd.out.cell 0 1 rfl rfl, trivial⟩)
          | (with_reducible refine And.intro (?_ : World.cell? wc _ = _) ?_; exact hCc.out.cell 0 0 rfl rfl; exact ⟨hCc.out.cell 0 1 rfl rfl, trivial⟩)
          | (with_reducible refine And.intro (?_ : World.cell? wb _ = _) ?_; exact hCb.out.cell 0 0 rfl rfl; exact ⟨hCb.out.cell 0 1 rfl rfl, trivial⟩)
          | (with_reducible refine And.intro (?_ : World.cell? wa _ = _) ?_; exact hCa.out.cell 0 0 rfl rfl; exact ⟨hCa.out.cell 0 1 rfl rfl, trivial⟩)
          | (with_reducible refine And.intro (?_ : World.cell? _ _ = _) ?_; exact hC.out.drew.cell 0 0 rfl rfl; exact ⟨hC.out.drew.cell 0 1 rfl rfl, trivial⟩))
        (first
          | (have _t := hCc; go_at_call 31; refine (cmp_any _ _ _ _ _ _ _ _ _ _ _ (hCc.out.z 0 rfl) (hCc.out.z 2 rfl) HL.out HLx.out).mono ?_; rintro e wd ⟨rfl, hb⟩; have hCd := Lib.hid (hCc.out.call hb); clear hb; rw [V2.out]; clear _t hCc)
          | (have _t := hCb; go_at_call 35; refine (int_any 9223372036854775807 (by omega) _).mono ?_; rintro e wc ⟨bc, kc, lc, mc, rfl, hzc, hb⟩; have hCc := Lib.hid ((hCb.out.call hb).pz hzc); clear hzc hb; clear _t hCb)
          | (have _t := hCa; go_at_call 31; refine (cmp_any _ _ _ _ _ _ _ _ _ _ _ (hCa.out.z 0 rfl) (hCa.out.z 1 rfl) HL.out HLm.out).mono ?_; rintro e wb ⟨rfl, hb⟩; have hCb := Lib.hid (hCa.out.call hb); clear hb; rw [V1.out]; clear _t hCa)
          | (have _t := hC; go_at_call 35; refine (int_any (-9223372036854775808) (by omega) _).mono ?_; rintro e wa ⟨ba, ka, la, ma, rfl, hza, hb⟩; have hCa := Lib.hid ((hC.out.drew.call hb).pz hza); clear hza hb; clear _t hC))
      go_wp2
      go_ret2
      exact ⟨by rw [HR.out]; rfl, hCd.out.be⟩
    · obtain ⟨v2, hv2⟩ : ∃ v : Int, sgn (z - 9223372036854775807) = v := ⟨_, rfl⟩
      have d2 : decide (0 < v2) = false := by have := sgn_nonpos (z := z - 9223372036854775807) (by omega); simp; omega
      have V2 := Lib.hid hv2
      clear hv2
      have HR := Lib.hid (show i64res z = (z, true) from by unfold i64res; rw [if_pos (by omega)])
      have HB := Lib.hid (show z.natAbs < 18446744073709551616 by omega)
      obtain ⟨u, hu⟩ : ∃ u : Int, IntKind.i64.wrap ((z.natAbs : Nat) : Int) = u := ⟨_, rfl⟩
      have HU := Lib.hid (show if m then IntKind.i64.wrap (-u) = z else u = z from by
        have hm := HM.out
        rw [IntKind.wrap_i64] at hu
        cases m
        · have : ¬ z < 0 := by simpa using hm.symm
          simp only [Bool.false_eq_true, if_false]; omega
        · have : z < 0 := by simpa using hm.symm
          simp only [if_true]
          rw [IntKind.wrap_i64]; omega)
      clear h1 h2
      go_enter Tryz.func33, Tryz.ntmps33
      go_wp2
      go_region_held3 (fun w' => w'.cell? ⟨w.heap.size, 0, none⟩ = some (.slice a n c) ∧ w'.cell? ⟨w.heap.size, 1, none⟩ = some (.bool m) ∧ True)
        (first
          | (with_reducible refine And.intro (?_ : World.cell? wd _ = _) ?_; exact hCd.out.cell 0 0 rfl rfl; exact ⟨hCd.out.cell 0 1 rfl rfl, trivial⟩)
          | (with_reducible refine And.intro (?_ : World.cell? wc _ = _) ?_; exact hCc.out.cell 0 0 rfl rfl; exact ⟨hCc.out.cell 0 1 rfl rfl, trivial⟩)
          | (with_reducible refine And.intro (?_ : World.cell? wb _ = _) ?_; exact hCb.out.cell 0 0 rfl rfl; exact ⟨hCb.out.cell 0 1 rfl rfl, trivial⟩)
          | (with_reducible refine And.intro (?_ : World.cell? wa _ = _) ?_; exact hCa.out.cell 0 0 rfl rfl; exact ⟨hCa.out.cell 0 1 rfl rfl, trivial⟩)
          | (with_reducible refine And.intro (?_ : World.cell? _ _ = _) ?_; exact hC.out.drew.cell 0 0 rfl rfl; exact ⟨hC.out.drew.cell 0 1 rfl rfl, trivial⟩))
        (first
          | (have _t := hCc; go_at_call 31; refine (cmp_any _ _ _ _ _ _ _ _ _ _ _ (hCc.out.z 0 rfl) (hCc.out.z 2 rfl) HL.out HLx.out).mono ?_; rintro e wd ⟨rfl, hb⟩; have hCd := Lib.hid (hCc.out.call hb); clear hb; rw [V2.out]; clear _t hCc)
          | (have _t := hCb; go_at_call 35; refine (int_any 9223372036854775807 (by omega) _).mono ?_; rintro e wc ⟨bc, kc, lc, mc, rfl, hzc, hb⟩; have hCc := Lib.hid ((hCb.out.call hb).pz hzc); clear hzc hb; clear _t hCb)
          | (have _t := hCa; go_at_call 31; refine (cmp_any _ _ _ _ _ _ _ _ _ _ _ (hCa.out.z 0 rfl) (hCa.out.z 1 rfl) HL.out HLm.out).mono ?_; rintro e wb ⟨rfl, hb⟩; have hCb := Lib.hid (hCa.out.call hb); clear hb; rw [V1.out]; clear _t hCa)
          | (have _t := hC; go_at_call 35; refine (int_any (-9223372036854775808) (by omega) _).mono ?_; rintro e wa ⟨ba, ka, la, ma, rfl, hza, hb⟩; have hCa := Lib.hid ((hC.out.drew.call hb).pz hza); clear hza hb; clear _t hC))
      have x0 := hCd.out.cell 0 0 rfl rfl
      have x1 := hCd.out.cell 0 1 rfl rfl
      go_wp2_with fail
      refine (dword_any _ _ _ _ _ (hCd.out.zd 0 rfl) HB.out).mono ?_
      rintro e we ⟨rfl, hb⟩
      have hCe := Lib.hid (hCd.out.call hb)
      clear hb x0 x1
      have x1 := hCe.out.cell 0 1 rfl rfl
      cases m
      · go_wp2
        go_ret2
        exact ⟨by rw [HR.out]; have := HU.out; simp only [Bool.false_eq_true, if_false] at this; rw [← this]; rfl, hCe.out.be⟩
      · have hu2 : IntKind.i64.wrap (-u) = z := by have := HU.out; simpa using this
        go_wp2
        go_ret2
        exact ⟨by rw [HR.out]; rfl, hCe.out.be⟩

end Go.Proofs.YtmfplelodnoicaaGreatDoor
namespace Go.Proofs.YtmfplelodnoicaaGreatDoor
open Go.RowKit Dig

set_option maxHeartbeats 1000000 in
theorem cutA_no (s : ByteArray) (w : World) (hi : Lib.indexByte s.data.toList 47 < 0) :
    Calls Tryz.prog 136 #[.string s, .string ⟨#[47]⟩] w fun e w' => e = .returned (.tuple #[.string s, .string ⟨#[]⟩, .bool false]) ∧ Below w.heap.size w w' := by
  obtain ⟨i, hx⟩ : ∃ i : Int, Lib.indexByte s.data.toList 47 = i := ⟨_, rfl⟩
  have HX := Lib.hid hx
  have h0 : i < 0 := by omega
  have d0 : decide (0 ≤ i) = false := by simp; omega
  clear hx hi
  go_enter Tryz.func136, Tryz.ntmps136
  go_wp2_with fail
  refine (Tryz.stringslite_Index_one s 47 _).mono ?_
  rintro e w1 ⟨rfl, rfl⟩
  rw [HX.out]
  go_wp2
  go_ret3
  exact ⟨rfl, Below.refl _ _⟩

set_option maxHeartbeats 1000000 in
theorem cutA_at (s : ByteArray) (k : Nat) (w : World) (hi : Lib.indexByte s.data.toList 47 = (k : Int)) (hk : k < s.size) (hs : s.size ≤ 100000) :
    Calls Tryz.prog 136 #[.string s, .string ⟨#[47]⟩] w fun e w' => e = .returned (.tuple #[.string (s.extract 0 k), .string (s.extract (k + 1) s.size), .bool true]) ∧ Below w.heap.size w w' := by
  have HX := Lib.hid hi
  have h0 : (0 : Int) ≤ (k : Int) := by omega
  have h1 : (k : Int) ≤ (s.size : Int) := by omega
  have h2 : (k : Int) + 1 ≤ (s.size : Int) := by omega
  have h3 : IntKind.i64.wrap ((k : Int) + 1) = (k : Int) + 1 := IntWalk.i64_in _ (by omega)
  have h4 : (0 : Int) ≤ (k : Int) + 1 := by omega
  have h5 : ((k : Int) + 1).toNat = k + 1 := by omega
  have h6 : (s.size : Int) ≤ 100000 := by omega
  clear hi
  go_enter Tryz.func136, Tryz.ntmps136
  go_wp2_with fail
  refine (Tryz.stringslite_Index_one s 47 _).mono ?_
  rintro e w1 ⟨rfl, rfl⟩
  rw [HX.out]
  go_wp2
  go_region_held3 (fun _ => True) (trivial) (fail)
  go_wp2
  go_ret3
  exact ⟨rfl, (Below.refl _ _).drew⟩

theorem cut_no (s : ByteArray) (w : World) (hi : Lib.indexByte s.data.toList 47 < 0) :
    Calls Tryz.prog 113 #[.string s, .string ⟨#[47]⟩] w fun e w' => e = .returned (.tuple #[.string s, .string ⟨#[]⟩, .bool false]) ∧ Below w.heap.size w w' := by
  have HX := Lib.hid hi
  clear hi
  go_enter Tryz.func113, Tryz.ntmps113
  go_wp2_with fail
  refine (cutA_no s _ HX.out).mono ?_
  rintro e w1 ⟨rfl, hb⟩
  have HB := Lib.hid hb
  clear hb
  go_wp2
  go_ret3
  exact ⟨rfl, HB.out⟩
theorem cut_at (s : ByteArray) (k : Nat) (w : World) (hi : Lib.indexByte s.data.toList 47 = (k : Int)) (hk : k < s.size) (hs : s.size ≤ 100000) :
    Calls Tryz.prog 113 #[.string s, .string ⟨#[47]⟩] w fun e w' => e = .returned (.tuple #[.string (s.extract 0 k), .string (s.extract (k + 1) s.size), .bool true]) ∧ Below w.heap.size w w' := by
  have HX := Lib.hid hi
  clear hi
  go_enter Tryz.func113, Tryz.ntmps113
  go_wp2_with fail
  refine (cutA_at s k _ HX.out hk hs).mono ?_
  rintro e w1 ⟨rfl, hb⟩
  have HB := Lib.hid hb
  clear hb
  go_wp2
  go_ret3
  exact ⟨rfl, HB.out⟩

end Go.Proofs.YtmfplelodnoicaaGreatDoor

/- a plan's data (sheets, walls, openings); slices.IndexFunc and ContainsFunc at these types -/
/- a sheet's numbers: what its width, its cope, its courses are -/
/- the program's width, cope and courses of a sheet -/
/- the laws' conversions: a list of the reference's type becomes one of the program's, cell by cell -/
/- the program's courses of a sheet -/
import Derived.Test.YtchignmnnbepnaaGreatJ10
import Derived.Test.YtchignmnnbepnaaGreatJ11
import Derived.Test.YtchignmnnbepnaaGreatJ2
import Derived.Test.YtchignmnnbepnaaGreatJ4
namespace Go.Proofs.YtchignmnnbepnaaGreat
open Go.RowKit
structure Sht where
  name : ByteArray
  base : Int
  batter : Int
  height : Int
  skin : Int
  ha : Option Addr
  hn : Nat
  hc : Nat
  hs : List Int
  least : Int
  lap : Int
  run : Int
  every : Int
  at_ : Int
  footing : Int
  spread : Int
  cope : Int
  tall : Int
  short : Int
  thick : Int
  low : Int
  high : Int
  rood : Int
structure Opn where
  kind : Int
  at_ : Int
  wide : Int
  fro : Int
  high : Int
structure Wal where
  name : ByteArray
  sheet : ByteArray
  len : Int
  oa : Option Addr
  on : Nat
  oc : Nat
  ops : List Opn
abbrev aS (s : Sht) : Value := .agg #[.string s.name, .int .i64 s.base, .int .i64 s.batter, .int .i64 s.height, .int .i64 s.skin, .slice s.ha s.hn s.hc, .int .i64 s.least, .int .i64 s.lap, .int .i64 s.run, .int .i64 s.every, .int .i64 s.at_, .int .i64 s.footing, .int .i64 s.spread, .int .u8 s.cope, .int .i64 s.tall, .int .i64 s.short, .int .i64 s.thick, .int .i64 s.low, .int .i64 s.high, .int .i64 s.rood]
abbrev aW (s : Wal) : Value := .agg #[.string s.name, .string s.sheet, .int .i64 s.len, .slice s.oa s.on s.oc]
abbrev aO (s : Opn) : Value := .agg #[.int .u8 s.kind, .int .i64 s.at_, .int .i64 s.wide, .int .i64 s.fro, .int .i64 s.high]
def cS (s : Sht) : List Value := [.string s.name, .int .i64 s.base, .int .i64 s.batter, .int .i64 s.height, .int .i64 s.skin, .slice s.ha s.hn s.hc, .int .i64 s.least, .int .i64 s.lap, .int .i64 s.run, .int .i64 s.every, .int .i64 s.at_, .int .i64 s.footing, .int .i64 s.spread, .int .u8 s.cope, .int .i64 s.tall, .int .i64 s.short, .int .i64 s.thick, .int .i64 s.low, .int .i64 s.high, .int .i64 s.rood]
def cWa (s : Wal) : List Value := [.string s.name, .string s.sheet, .int .i64 s.len, .slice s.oa s.on s.oc]
def cO (s : Opn) : List Value := [.int .u8 s.kind, .int .i64 s.at_, .int .i64 s.wide, .int .i64 s.fro, .int .i64 s.high]
def LS (l : List Sht) : List Value := l.flatMap cS
def LWa (l : List Wal) : List Value := l.flatMap cWa
def LO (l : List Opn) : List Value := l.flatMap cO
theorem LS_len (l : List Sht) : (LS l).length = l.length * 20 := flat_len (f := cS) (fun _ => rfl) l
theorem LS_take (l : List Sht) (i : Nat) : (LS l).take (i * 20) = LS (l.take i) := flat_take (f := cS) (k := 20) (fun _ => rfl) l i
theorem LWa_len (l : List Wal) : (LWa l).length = l.length * 4 := flat_len (f := cWa) (fun _ => rfl) l
theorem LO_len (l : List Opn) : (LO l).length = l.length * 5 := flat_len (f := cO) (fun _ => rfl) l
theorem LO_append (l r : List Opn) : LO (l ++ r) = LO l ++ LO r := List.flatMap_append
theorem LO_take (l : List Opn) (i : Nat) : (LO l).take (i * 5) = LO (l.take i) := flat_take (f := cO) (k := 5) (fun _ => rfl) l i
theorem LO_snoc (l : List Opn) (k : Nat) (h : k < l.length) : LO (l.take (k + 1)) = LO (l.take k) ++ cO l[k] := by rw [List.take_succ_eq_append_getElem h, LO_append]; simp [LO]
section
variable {W : World} {n c g o : Nat}
theorem Sx.atS {l : List Sht} (h : Sx 20 W (some ⟨g, o, none⟩) n c (LS l)) {i : Nat} (hi : i < l.length) : W.cell? ⟨g, o + i * 20, none⟩ = some (.string l[i].name) ∧ W.cell? ⟨g, o + i * 20 + 1, none⟩ = some (.int .i64 l[i].base) ∧ W.cell? ⟨g, o + i * 20 + 2, none⟩ = some (.int .i64 l[i].batter) ∧ W.cell? ⟨g, o + i * 20 + 3, none⟩ = some (.int .i64 l[i].height) ∧ W.cell? ⟨g, o + i * 20 + 4, none⟩ = some (.int .i64 l[i].skin) ∧ W.cell? ⟨g, o + i * 20 + 5, none⟩ = some (.slice l[i].ha l[i].hn l[i].hc) ∧ W.cell? ⟨g, o + i * 20 + 6, none⟩ = some (.int .i64 l[i].least) ∧ W.cell? ⟨g, o + i * 20 + 7, none⟩ = some (.int .i64 l[i].lap) ∧ W.cell? ⟨g, o + i * 20 + 8, none⟩ = some (.int .i64 l[i].run) ∧ W.cell? ⟨g, o + i * 20 + 9, none⟩ = some (.int .i64 l[i].every) ∧ W.cell? ⟨g, o + i * 20 + 10, none⟩ = some (.int .i64 l[i].at_) ∧ W.cell? ⟨g, o + i * 20 + 11, none⟩ = some (.int .i64 l[i].footing) ∧ W.cell? ⟨g, o + i * 20 + 12, none⟩ = some (.int .i64 l[i].spread) ∧ W.cell? ⟨g, o + i * 20 + 13, none⟩ = some (.int .u8 l[i].cope) ∧ W.cell? ⟨g, o + i * 20 + 14, none⟩ = some (.int .i64 l[i].tall) ∧ W.cell? ⟨g, o + i * 20 + 15, none⟩ = some (.int .i64 l[i].short) ∧ W.cell? ⟨g, o + i * 20 + 16, none⟩ = some (.int .i64 l[i].thick) ∧ W.cell? ⟨g, o + i * 20 + 17, none⟩ = some (.int .i64 l[i].low) ∧ W.cell? ⟨g, o + i * 20 + 18, none⟩ = some (.int .i64 l[i].high) ∧ W.cell? ⟨g, o + i * 20 + 19, none⟩ = some (.int .i64 l[i].rood) :=
  ⟨h.cell (flat_get (k := 20) (fun _ => rfl) l i 0 hi (by omega)), h.cell (flat_get (k := 20) (fun _ => rfl) l i 1 hi (by omega)), h.cell (flat_get (k := 20) (fun _ => rfl) l i 2 hi (by omega)), h.cell (flat_get (k := 20) (fun _ => rfl) l i 3 hi (by omega)), h.cell (flat_get (k := 20) (fun _ => rfl) l i 4 hi (by omega)), h.cell (flat_get (k := 20) (fun _ => rfl) l i 5 hi (by omega)), h.cell (flat_get (k := 20) (fun _ => rfl) l i 6 hi (by omega)), h.cell (flat_get (k := 20) (fun _ => rfl) l i 7 hi (by omega)), h.cell (flat_get (k := 20) (fun _ => rfl) l i 8 hi (by omega)), h.cell (flat_get (k := 20) (fun _ => rfl) l i 9 hi (by omega)), h.cell (flat_get (k := 20) (fun _ => rfl) l i 10 hi (by omega)), h.cell (flat_get (k := 20) (fun _ => rfl) l i 11 hi (by omega)), h.cell (flat_get (k := 20) (fun _ => rfl) l i 12 hi (by omega)), h.cell (flat_get (k := 20) (fun _ => rfl) l i 13 hi (by omega)), h.cell (flat_get (k := 20) (fun _ => rfl) l i 14 hi (by omega)), h.cell (flat_get (k := 20) (fun _ => rfl) l i 15 hi (by omega)), h.cell (flat_get (k := 20) (fun _ => rfl) l i 16 hi (by omega)), h.cell (flat_get (k := 20) (fun _ => rfl) l i 17 hi (by omega)), h.cell (flat_get (k := 20) (fun _ => rfl) l i 18 hi (by omega)), h.cell (flat_get (k := 20) (fun _ => rfl) l i 19 hi (by omega))⟩
theorem Sx.nS {a : Option Addr} {l : List Sht} (h : Sx 20 W a n c (LS l)) : n = l.length := by have := h.1; rw [LS_len] at this; omega
theorem Sx.atWa {l : List Wal} (h : Sx 4 W (some ⟨g, o, none⟩) n c (LWa l)) {i : Nat} (hi : i < l.length) : W.cell? ⟨g, o + i * 4, none⟩ = some (.string l[i].name) ∧ W.cell? ⟨g, o + i * 4 + 1, none⟩ = some (.string l[i].sheet) ∧ W.cell? ⟨g, o + i * 4 + 2, none⟩ = some (.int .i64 l[i].len) ∧ W.cell? ⟨g, o + i * 4 + 3, none⟩ = some (.slice l[i].oa l[i].on l[i].oc) :=
  ⟨h.cell (flat_get (k := 4) (fun _ => rfl) l i 0 hi (by omega)), h.cell (flat_get (k := 4) (fun _ => rfl) l i 1 hi (by omega)), h.cell (flat_get (k := 4) (fun _ => rfl) l i 2 hi (by omega)), h.cell (flat_get (k := 4) (fun _ => rfl) l i 3 hi (by omega))⟩
theorem Sx.nWa {a : Option Addr} {l : List Wal} (h : Sx 4 W a n c (LWa l)) : n = l.length := by have := h.1; rw [LWa_len] at this; omega
theorem Sx.atO {l : List Opn} (h : Sx 5 W (some ⟨g, o, none⟩) n c (LO l)) {i : Nat} (hi : i < l.length) : W.cell? ⟨g, o + i * 5, none⟩ = some (.int .u8 l[i].kind) ∧ W.cell? ⟨g, o + i * 5 + 1, none⟩ = some (.int .i64 l[i].at_) ∧ W.cell? ⟨g, o + i * 5 + 2, none⟩ = some (.int .i64 l[i].wide) ∧ W.cell? ⟨g, o + i * 5 + 3, none⟩ = some (.int .i64 l[i].fro) ∧ W.cell? ⟨g, o + i * 5 + 4, none⟩ = some (.int .i64 l[i].high) :=
  ⟨h.cell (flat_get (k := 5) (fun _ => rfl) l i 0 hi (by omega)), h.cell (flat_get (k := 5) (fun _ => rfl) l i 1 hi (by omega)), h.cell (flat_get (k := 5) (fun _ => rfl) l i 2 hi (by omega)), h.cell (flat_get (k := 5) (fun _ => rfl) l i 3 hi (by omega)), h.cell (flat_get (k := 5) (fun _ => rfl) l i 4 hi (by omega))⟩
theorem Sx.nO {a : Option Addr} {l : List Opn} (h : Sx 5 W a n c (LO l)) : n = l.length := by have := h.1; rw [LO_len] at this; omega
end
/-- where the first one is; -1: nowhere -/
def idxB {α : Type} (p : α → Bool) (l : List α) : Int := match l.findIdx? p with
  | some i => i
  | none => -1
theorem idxB_some {α : Type} {p : α → Bool} {l : List α} {k : Nat} (hk : k < l.length) (hp : p l[k] = true) (hn : ∀ i (h : i < l.length), i < k → p l[i] = false) : idxB p l = k := by
  unfold idxB
  rw [List.findIdx?_eq_some_iff_getElem.2 ⟨hk, hp, fun j hj => by rw [hn j (by omega) hj]; simp⟩]
theorem idxB_none {α : Type} {p : α → Bool} {l : List α} (hn : ∀ i (h : i < l.length), p l[i] = false) : idxB p l = -1 := by
  unfold idxB
  rw [List.findIdx?_eq_none_iff.2 (fun x hx => by obtain ⟨i, hi, rfl⟩ := List.getElem_of_mem hx; exact hn i hi)]
theorem idxB_cases {α : Type} (p : α → Bool) (l : List α) : (idxB p l = -1 ∧ ∀ i (h : i < l.length), p l[i] = false) ∨ ∃ k, ∃ h : k < l.length, idxB p l = k ∧ p l[k] = true ∧ ∀ i (h : i < l.length), i < k → p l[i] = false := by
  cases h : l.findIdx? p with
  | none =>
    refine .inl ⟨by unfold idxB; rw [h], fun i hi => ?_⟩
    exact List.findIdx?_eq_none_iff.1 h _ (List.getElem_mem hi)
  | some k =>
    obtain ⟨h1, h2, h3⟩ := List.findIdx?_eq_some_iff_getElem.1 h
    refine .inr ⟨k, h1, by unfold idxB; rw [h], h2, fun i hi hik => ?_⟩
    have := h3 i hik
    simpa using this
theorem info_Sheet : (Tryz.prog.info? 92).map (·.size) = some 20 := by kernel_rfl
set_option maxHeartbeats 4000000 in
set_option maxRecDepth 100000 in
theorem indexFunc_Sheet (a : Option Addr) (n c : Nat) (l : List Sht) (g : Nat) (cb : Array Value) (p : Sht → Bool) (w : World) (hs : Sx 20 w a n c (LS l)) (eg : EG g) (hf : Asks g cb w aS l Value.bool p) :
    Calls Tryz.prog 89 #[.slice a n c, .func (.func g) #[] cb] w (Gives (.int .i64 (idxB p l)) w) := by
  have hn := hs.nS
  have hm : l.length ≤ 9223372036854775807 := by have := hs.cap; unfold maxLen at this; omega
  have HS := Lib.hid hs
  have HF := Lib.hid hf
  obtain rfl : l.length = n := hn.symm
  clear hs hf hn
  go_enter Tryz.func89, Tryz.ntmps89
  go_wp2
  go_loopw [5, 8] (fun _ iv wr => ∃ k : Nat, k ≤ l.length ∧ iv = .int .i64 k ∧ Hid ((∀ i (h : i < l.length), i < k → p l[i] = false) ∧ Below w.heap.size w wr)) (fun _ iv _ => l.length - (intOf iv).toNat)
  case atStart => exact ⟨0, Nat.zero_le _, rfl, Lib.hid ⟨fun i _ h => absurd h (Nat.not_lt_zero i), Below.refl _ _⟩⟩
  case round =>
    obtain ⟨k, hk, rfl, hI⟩ := hrel
    by_cases hlt : k < l.length
    · have hx := HF.out wr hI.out.2 l[k] (List.getElem_mem hlt)
      obtain ⟨g0, o0, rfl⟩ := HS.out.addr (by omega)
      have HR := Lib.hid ((HS.out.below hI.out.2).range (f := cS) (fun _ => rfl) hlt)
      have HPK := Lib.hid (show ∀ i (h : i < l.length), i = k → p l[i] = p l[k] from fun i h e => by subst e; rfl)
      have HM := Lib.hid (show p l[k] = true → idxB p l = k from fun h => idxB_some hlt h hI.out.1)
      generalize l[k] = x at *
      obtain ⟨V, hV⟩ : ∃ V, Value.agg (cS x).toArray = V := ⟨_, rfl⟩
      rw [show aS x = V from hV] at hx
      have HV := Lib.hid hV
      clear hV
      generalize hp : p x = px at *
      cases px
      · have HP := Lib.hid hp
        have HX := Lib.hid hx
        clear hp hx HF HS
        go_wp2_with (refine wpList_ld (o := ⟨some 15, _, _, _, _, _⟩) rfl _ _ rfl _ _ rfl (cS x) _ HR.out Tryz.underlying92 rfl info_Sheet V HV.out ?_)
        refine HX.out.mono ?_
        rintro e w1 ⟨rfl, hb⟩
        have hB := Lib.hid (hI.out.2.trans (hb.mono hI.out.2.size))
        clear hb
        go_wp2
        go_roundw
        case rel => exact ⟨k + 1, by omega, by go_num, Lib.hid ⟨fun i h hik => by
          rcases Nat.lt_or_ge i k with h1 | h1
          · exact hI.out.1 i h h1
          · exact HPK.out i h (by omega), hB.out⟩⟩
        case measure => simp [intOf]; omega
      · have HP := Lib.hid (HM.out rfl)
        have HX := Lib.hid hx
        clear hp hx HF HS HM HPK
        go_wp2_with (refine wpList_ld (o := ⟨some 15, _, _, _, _, _⟩) rfl _ _ rfl _ _ rfl (cS x) _ HR.out Tryz.underlying92 rfl info_Sheet V HV.out ?_)
        refine HX.out.mono ?_
        rintro e w1 ⟨rfl, hb⟩
        have hB := Lib.hid (hI.out.2.trans (hb.mono hI.out.2.size))
        clear hb
        go_wp2
        go_ret
        exact ⟨ret_int HP.out.symm, hB.out⟩
    · have HP := Lib.hid (idxB_none (fun i h => hI.out.1 i h (by omega)))
      go_wp2
      go_ret
      exact ⟨ret_int HP.out.symm, hI.out.2⟩
set_option maxHeartbeats 4000000 in
set_option maxRecDepth 100000 in
theorem indexFunc_Wall (a : Option Addr) (n c : Nat) (l : List Wal) (g : Nat) (cb : Array Value) (p : Wal → Bool) (w : World) (hs : Sx 4 w a n c (LWa l)) (eg : EG g) (hf : Asks g cb w aW l Value.bool p) :
    Calls Tryz.prog 97 #[.slice a n c, .func (.func g) #[] cb] w (Gives (.int .i64 (idxB p l)) w) := by
  have hn := hs.nWa
  have hm : l.length ≤ 9223372036854775807 := by have := hs.cap; unfold maxLen at this; omega
  have HS := Lib.hid hs
  have HF := Lib.hid hf
  obtain rfl : l.length = n := hn.symm
  clear hs hf hn
  go_enter Tryz.func97, Tryz.ntmps97
  go_wp2
  go_loopw [5, 8] (fun _ iv wr => ∃ k : Nat, k ≤ l.length ∧ iv = .int .i64 k ∧ Hid ((∀ i (h : i < l.length), i < k → p l[i] = false) ∧ Below w.heap.size w wr)) (fun _ iv _ => l.length - (intOf iv).toNat)
  case atStart => exact ⟨0, Nat.zero_le _, rfl, Lib.hid ⟨fun i _ h => absurd h (Nat.not_lt_zero i), Below.refl _ _⟩⟩
  case round =>
    obtain ⟨k, hk, rfl, hI⟩ := hrel
    by_cases hlt : k < l.length
    · have hx := HF.out wr hI.out.2 l[k] (List.getElem_mem hlt)
      obtain ⟨g0, o0, rfl⟩ := HS.out.addr (by omega)
      obtain ⟨x0, x1, x2, x3⟩ := (HS.out.below hI.out.2).atWa hlt
      have HPK := Lib.hid (show ∀ i (h : i < l.length), i = k → p l[i] = p l[k] from fun i h e => by subst e; rfl)
      have HM := Lib.hid (show p l[k] = true → idxB p l = k from fun h => idxB_some hlt h hI.out.1)
      generalize l[k] = x at *
      obtain ⟨q0, q1, q2, qa, qn, qc, qh⟩ := x
      cases hp : p ⟨q0, q1, q2, qa, qn, qc, qh⟩
      · clear HF HS
        as_aux_lemma =>
        rw [hp] at hx
        have HP := Lib.hid hp
        have HX := Lib.hid hx
        clear hp hx
        go_wp2_with fail
        refine HX.out.mono ?_
        rintro e w1 ⟨rfl, hb⟩
        have hB := Lib.hid (hI.out.2.trans (hb.mono hI.out.2.size))
        clear hb
        go_wp2
        go_roundw
        case rel => exact ⟨k + 1, by omega, by go_num, Lib.hid ⟨fun i h hik => by
          rcases Nat.lt_or_ge i k with h1 | h1
          · exact hI.out.1 i h h1
          · exact (HPK.out i h (by omega)).trans HP.out, hB.out⟩⟩
        case measure => simp [intOf]; omega
      · clear HF HS HPK
        as_aux_lemma =>
        rw [hp] at hx
        have HP := Lib.hid (HM.out hp)
        have HX := Lib.hid hx
        clear hp hx HM
        go_wp2_with fail
        refine HX.out.mono ?_
        rintro e w1 ⟨rfl, hb⟩
        have hB := Lib.hid (hI.out.2.trans (hb.mono hI.out.2.size))
        clear hb
        go_wp2
        go_ret
        exact ⟨ret_int HP.out.symm, hB.out⟩
    · have HP := Lib.hid (idxB_none (fun i h => hI.out.1 i h (by omega)))
      go_wp2
      go_ret
      exact ⟨ret_int HP.out.symm, hI.out.2⟩
set_option maxHeartbeats 4000000 in
set_option maxRecDepth 100000 in
theorem indexFunc_Opening (a : Option Addr) (n c : Nat) (l : List Opn) (g : Nat) (v : Value) (p : Opn → Bool) (w : World) (hs : Sx 5 w a n c (LO l)) (eg : EG g) (hf : ∀ W, Below w.heap.size w W → ∀ x ∈ l, Calls Tryz.prog g #[v, aO x] W (Gives (.bool (p x)) W)) :
    Calls Tryz.prog 129 #[.slice a n c, .func (.func g) #[v] #[]] w (Gives (.int .i64 (idxB p l)) w) := by
  have hn := hs.nO
  have hm : l.length ≤ 9223372036854775807 := by have := hs.cap; unfold maxLen at this; omega
  have HS := Lib.hid hs
  have HF := Lib.hid hf
  obtain rfl : l.length = n := hn.symm
  clear hs hf hn
  go_enter Tryz.func129, Tryz.ntmps129
  go_wp2
  go_loopw [5, 8] (fun _ iv wr => ∃ k : Nat, k ≤ l.length ∧ iv = .int .i64 k ∧ Hid ((∀ i (h : i < l.length), i < k → p l[i] = false) ∧ Below w.heap.size w wr)) (fun _ iv _ => l.length - (intOf iv).toNat)
  case atStart => exact ⟨0, Nat.zero_le _, rfl, Lib.hid ⟨fun i _ h => absurd h (Nat.not_lt_zero i), Below.refl _ _⟩⟩
  case round =>
    obtain ⟨k, hk, rfl, hI⟩ := hrel
    by_cases hlt : k < l.length
    · have hx := HF.out wr hI.out.2 l[k] (List.getElem_mem hlt)
      obtain ⟨g0, o0, rfl⟩ := HS.out.addr (by omega)
      obtain ⟨x0, x1, x2, x3, x4⟩ := (HS.out.below hI.out.2).atO hlt
      have HPK := Lib.hid (show ∀ i (h : i < l.length), i = k → p l[i] = p l[k] from fun i h e => by subst e; rfl)
      have HM := Lib.hid (show p l[k] = true → idxB p l = k from fun h => idxB_some hlt h hI.out.1)
      generalize l[k] = x at *
      obtain ⟨q0, q1, q2, q3, q4⟩ := x
      cases hp : p ⟨q0, q1, q2, q3, q4⟩
      · clear HF HS
        as_aux_lemma =>
        rw [hp] at hx
        have HP := Lib.hid hp
        have HX := Lib.hid hx
        clear hp hx
        go_wp2_with fail
        refine HX.out.mono ?_
        rintro e w1 ⟨rfl, hb⟩
        have hB := Lib.hid (hI.out.2.trans (hb.mono hI.out.2.size))
        clear hb
        go_wp2
        go_roundw
        case rel => exact ⟨k + 1, by omega, by go_num, Lib.hid ⟨fun i h hik => by
          rcases Nat.lt_or_ge i k with h1 | h1
          · exact hI.out.1 i h h1
          · exact (HPK.out i h (by omega)).trans HP.out, hB.out⟩⟩
        case measure => simp [intOf]; omega
      · clear HF HS HPK
        as_aux_lemma =>
        rw [hp] at hx
        have HP := Lib.hid (HM.out hp)
        have HX := Lib.hid hx
        clear hp hx HM
        go_wp2_with fail
        refine HX.out.mono ?_
        rintro e w1 ⟨rfl, hb⟩
        have hB := Lib.hid (hI.out.2.trans (hb.mono hI.out.2.size))
        clear hb
        go_wp2
        go_ret
        exact ⟨ret_int HP.out.symm, hB.out⟩
    · have HP := Lib.hid (idxB_none (fun i h => hI.out.1 i h (by omega)))
      go_wp2
      go_ret
      exact ⟨ret_int HP.out.symm, hI.out.2⟩
theorem any_idx {α : Type} (p : α → Bool) (l : List α) : l.any p = decide (0 ≤ idxB p l) := by
  rcases idxB_cases p l with ⟨h1, h2⟩ | ⟨k, hk, h1, h2, _⟩
  · rw [h1, show l.any p = false from List.any_eq_false.2 fun x hx => by obtain ⟨i, hi, rfl⟩ := List.getElem_of_mem hx; rw [h2 i hi]; simp]
    rfl
  · rw [h1, List.any_eq_true.2 ⟨_, List.getElem_mem hk, h2⟩, decide_eq_true (by omega)]
set_option maxHeartbeats 1000000 in
theorem containsFunc_Opening (a : Option Addr) (n c : Nat) (l : List Opn) (g : Nat) (v : Value) (p : Opn → Bool) (w : World) (hs : Sx 5 w a n c (LO l)) (eg : EG g) (hf : ∀ W, Below w.heap.size w W → ∀ x ∈ l, Calls Tryz.prog g #[v, aO x] W (Gives (.bool (p x)) W)) :
    Calls Tryz.prog 100 #[.slice a n c, .func (.func g) #[v] #[]] w (Gives (.bool (l.any p)) w) := by
  have HX := Lib.hid (indexFunc_Opening a n c l g v p w hs eg hf)
  rw [any_idx]
  clear hs hf eg
  generalize idxB p l = r at *
  by_cases hr : 0 ≤ r
  all_goals
    go_enter Tryz.func100, Tryz.ntmps100
    go_wp2_with fail
    refine HX.out.mono ?_
    rintro e w1 ⟨rfl, hb⟩
    have hB := Lib.hid hb
    clear hb HX
  · go_wp2
    go_ret
    exact ⟨ret_bool (by simp [hr]), hB.out⟩
  · go_wp2
    go_ret
    exact ⟨ret_bool (by simp), hB.out⟩
end Go.Proofs.YtchignmnnbepnaaGreat
namespace Go.Proofs.YtchignmnnbepnaaGreat
open Go.RowKit
/-- the width at a height -/
def widthI (s : Sht) (z : Int) : Int := s.base - 2 * Int.tdiv (s.batter * z) 1000
/-- is the cope right? -/
def copedB (s : Sht) : Bool :=
  if s.cope = 0 then decide (s.tall = 0) && decide (s.short = 0) && decide (s.thick = 0)
  else if s.cope = 1 ∨ s.cope = 2 then [(s.tall, 1, 1000), (s.short, 0, 0), (s.thick, 1, 1000)].all limB
  else if s.cope = 3 then [(s.tall, 1, 1000), (s.short, 1, 1000), (s.thick, 1, 1000)].all limB
  else false
def hAt (hs : List Int) (i : Nat) : Int := hs.getD (min i (hs.length - 1)) 0
/-- the courses from number i on, which begins at z; and where they end -/
def courseRun (hs : List Int) (H : Int) : Nat → Nat → Int → List I2 × Int
  | 0, _, z => ([], z)
  | f + 1, i, z => if H < z + hAt hs i then ([], z) else ((z, z + hAt hs i) :: (courseRun hs H f (i + 1) (z + hAt hs i)).1, (courseRun hs H f (i + 1) (z + hAt hs i)).2)
theorem courseRun_succ (hs : List Int) (H : Int) (f i : Nat) (z : Int) : courseRun hs H (f + 1) i z = if H < z + hAt hs i then ([], z) else ((z, z + hAt hs i) :: (courseRun hs H f (i + 1) (z + hAt hs i)).1, (courseRun hs H f (i + 1) (z + hAt hs i)).2) := rfl
def coursesL (hs : List Int) (H least : Int) : List I2 :=
  let r := courseRun hs H 3001 0 0
  if r.2 = H then r.1 else if least ≤ H - r.2 ∨ r.1 = [] then r.1 ++ [(r.2, H)] else r.1.dropLast ++ [((r.1.getLastD (0, 0)).1, H)]
/-- so many courses are laid, and the rest will be -/
def Laying (hs : List Int) (H : Int) (out : List I2) (k : Nat) (z : Int) : Prop := out.length = k ∧ (k : Int) ≤ z ∧ z ≤ H ∧ courseRun hs H 3001 0 0 = (out ++ (courseRun hs H (3001 - k) k z).1, (courseRun hs H (3001 - k) k z).2)
theorem laying_start (hs : List Int) {H : Int} (h : 0 ≤ H) : Laying hs H [] 0 0 := ⟨rfl, by omega, h, by simp⟩
theorem laying_step {hs : List Int} {H : Int} {out : List I2} {k : Nat} {z : Int} (h : Laying hs H out k z) (hH : H ≤ 3000) (h1 : 1 ≤ hAt hs k) (ht : ¬ H < z + hAt hs k) : Laying hs H (out ++ [(z, z + hAt hs k)]) (k + 1) (z + hAt hs k) := by
  obtain ⟨e, a, b, c⟩ := h
  refine ⟨by simp [e], by omega, by omega, ?_⟩
  rw [c, show 3001 - k = (3001 - (k + 1)) + 1 by omega, courseRun_succ, if_neg ht]
  simp
theorem laying_end {hs : List Int} {H : Int} {out : List I2} {k : Nat} {z : Int} (h : Laying hs H out k z) (hH : H ≤ 3000) (ht : H < z + hAt hs k) : courseRun hs H 3001 0 0 = (out, z) := by
  obtain ⟨e, a, b, c⟩ := h
  rw [c, show 3001 - k = (3001 - (k + 1)) + 1 by omega, courseRun_succ, if_pos ht]
  simp
theorem courses_done {hs : List Int} {H least : Int} {out : List I2} {z : Int} (h : courseRun hs H 3001 0 0 = (out, z)) :
    coursesL hs H least = if z = H then out else if least ≤ H - z ∨ out = [] then out ++ [(z, H)] else out.dropLast ++ [((out.getLastD (0, 0)).1, H)] := by
  unfold coursesL
  rw [h]
theorem hAt_in {hs : List Int} {k : Nat} (h : 0 < hs.length) : ∃ j, ∃ hj : j < hs.length, j = min k (hs.length - 1) ∧ hAt hs k = hs[j] := by
  refine ⟨min k (hs.length - 1), by omega, rfl, ?_⟩
  unfold hAt
  rw [List.getD_eq_getElem?_getD, List.getElem?_eq_getElem (by omega)]
  rfl
theorem width_bd {s : Sht} {z : Int} (hb : 0 ≤ s.batter ∧ s.batter ≤ 500) (hz : 0 ≤ z ∧ z ≤ 3000) : 0 ≤ s.batter * z ∧ s.batter * z ≤ 1500000 ∧ 0 ≤ (s.batter * z).tdiv 1000 ∧ (s.batter * z).tdiv 1000 ≤ 1500 := by
  have h0 : 0 ≤ s.batter * z := Int.mul_nonneg hb.1 hz.1
  have h1 : s.batter * z ≤ 500 * 3000 := Int.mul_le_mul hb.2 hz.2 hz.1 (by omega)
  have h2 : (s.batter * z).tdiv 1000 = (s.batter * z) / 1000 := Int.tdiv_eq_ediv_of_nonneg h0
  omega
/-- the numbers that have a range -/
def shtNums (s : Sht) : List I3 := [(s.base, 1, 3000), (s.batter, 0, 500), (s.height, 1, 3000), (s.skin, 1, 1500), ((s.hn : Int), 1, 12), (s.least, 1, 1000), (s.lap, 0, 500), (s.run, 1, 20), (s.footing, 0, 1000), (s.spread, 0, 1000), (s.low, 0, s.high), (s.high, 0, 2000), (s.rood, 1, 100000)]
def throughB (s : Sht) : Bool := (s.every == 0 && s.at_ == 0) || [(s.every, 1, 100000), (s.at_, 0, 3000)].all limB
def numsB (s : Sht) : Bool := (shtNums s).all limB
def heightsB (s : Sht) : Bool := s.hs.all (fun h => inB h 1 1000)
def sheetB (s : Sht) : Bool := namedB s.name && throughB s && numsB s && heightsB s && copedB s && decide (1 ≤ widthI s s.height) && decide ((coursesL s.hs s.height s.least).length ≤ 100)
theorem sheetB_no {s : Sht} (h : namedB s.name = false ∨ throughB s = false ∨ numsB s = false ∨ heightsB s = false ∨ copedB s = false ∨ ¬ 1 ≤ widthI s s.height ∨ ¬ (coursesL s.hs s.height s.least).length ≤ 100) : sheetB s = false := by
  unfold sheetB
  rcases h with h | h | h | h | h | h | h
  all_goals simp [h]
theorem sheetB_yes {s : Sht} (h1 : namedB s.name = true) (h2 : throughB s = true) (h3 : numsB s = true) (h4 : heightsB s = true) (h5 : copedB s = true) (h6 : 1 ≤ widthI s s.height) (h7 : (coursesL s.hs s.height s.least).length ≤ 100) : sheetB s = true := by
  unfold sheetB
  simp [h1, h2, h3, h4, h5, h6, h7]
theorem lim_iff {x : I3} : limB x = true ↔ x.2.1 ≤ x.1 ∧ x.1 ≤ x.2.2 := inB_iff
theorem nums_get {s : Sht} (h : numsB s = true) : (1 ≤ s.base ∧ s.base ≤ 3000) ∧ (0 ≤ s.batter ∧ s.batter ≤ 500) ∧ (1 ≤ s.height ∧ s.height ≤ 3000) ∧ (1 ≤ (s.hn : Int) ∧ (s.hn : Int) ≤ 12) ∧ (1 ≤ s.least ∧ s.least ≤ 1000) := by
  unfold numsB at h
  rw [List.all_eq_true] at h
  exact ⟨lim_iff.1 (h _ (by simp [shtNums] : (s.base, 1, 3000) ∈ shtNums s)), lim_iff.1 (h _ (by simp [shtNums] : (s.batter, 0, 500) ∈ shtNums s)), lim_iff.1 (h _ (by simp [shtNums] : (s.height, 1, 3000) ∈ shtNums s)),
    lim_iff.1 (h _ (by simp [shtNums] : ((s.hn : Int), 1, 12) ∈ shtNums s)), lim_iff.1 (h _ (by simp [shtNums] : (s.least, 1, 1000) ∈ shtNums s))⟩
theorem all_no {l : List I3} {x : I3} (hx : x ∈ l) (h : limB x = false) : l.all limB = false := by
  cases e : l.all limB
  · rfl
  · rw [List.all_eq_true.1 e x hx] at h; cases h
theorem heights_get {s : Sht} (h : heightsB s = true) : ∀ x ∈ s.hs, 1 ≤ x ∧ x ≤ 1000 := fun x hx => inB_iff.1 (List.all_eq_true.1 h x hx)
/-- an opening's numbers, in a wall so long, so high -/
def openNums (o : Opn) (len H : Int) : List I3 := [(o.kind, 1, 4), (len, 1, 100000), (o.wide, 1, len), (o.at_, 0, len - o.wide), (o.high, 1, H), (o.fro, 0, H - o.high)]
def fitsB (o : Opn) (len H : Int) : Bool := (openNums o len H).all limB && (!(o.kind == 3) || (o.fro + o.high == H)) && (!(o.kind == 4) || ((o.fro + o.high == H) && (o.fro == 0)))
def meetsO (o p : Opn) : Bool := decide (o.at_ < p.at_ + p.wide) && decide (p.at_ < o.at_ + o.wide) && decide (o.fro < p.fro + p.high) && decide (p.fro < o.fro + o.high)
def opensB (l : List Opn) (len H : Int) : Bool := (List.range l.length).all fun i => match l[i]? with
  | some o => fitsB o len H && !((l.take i).any (meetsO o))
  | none => true
def wallB (x : Wal) (s : Sht) : Bool := namedB x.name && [(x.len, 1, 100000), ((x.on : Int), 0, 20)].all limB && opensB x.ops x.len s.height
end Go.Proofs.YtchignmnnbepnaaGreat
namespace Go.Proofs.YtchignmnnbepnaaGreat
open Go.RowKit
section
variable (w : World)
set_option maxHeartbeats 4000000 in
set_option maxRecDepth 100000 in
theorem pwidth_any (s : Sht) (z : Int) (hb : 0 ≤ s.batter ∧ s.batter ≤ 500) (hz : 0 ≤ z ∧ z ≤ 3000) (hB : 0 ≤ s.base ∧ s.base ≤ 3000) :
    Calls Tryz.prog 95 #[aS s, .int .i64 z] w (Gives (.int .i64 (widthI s z)) w) := by
  obtain ⟨p0, p1, p2, p3⟩ := width_bd hb hz
  have HE := Lib.hid (show widthI s z = s.base - 2 * (s.batter * z).tdiv 1000 from rfl)
  obtain ⟨V, hV⟩ : ∃ V, aS s = V := ⟨_, rfl⟩
  have HV := Lib.hid (show V.cells = (cS s).toArray by rw [← hV]; rfl)
  rw [hV]
  clear hV
  go_enter Tryz.func95, Tryz.ntmps95
  go_wp2_with (refine wpList_bx (o := ⟨some 2, _, _, _, _, _⟩) rfl (Sy.enter w) _ _ rfl (cS s).toArray HV.out ?_; intro b V2 h2; have hC := Lib.hid h2; clear h2; have x1 : V2.cell? ⟨b, 1, none⟩ = some (.int .i64 s.base) := hC.out.cell 0 1 rfl rfl; have x2 : V2.cell? ⟨b, 2, none⟩ = some (.int .i64 s.batter) := hC.out.cell 0 2 rfl rfl)
  go_ret
  exact ⟨ret_int HE.out.symm, hC.out.be⟩
set_option maxHeartbeats 4000000 in
set_option maxRecDepth 100000 in
theorem pcoped_any (s : Sht) : Calls Tryz.prog 94 #[aS s] w (Gives (.bool (copedB s)) w) := by
  obtain ⟨V, hV⟩ : ∃ V, aS s = V := ⟨_, rfl⟩
  have HV := Lib.hid (show V.cells = (cS s).toArray by rw [← hV]; rfl)
  rw [hV]
  clear hV
  by_cases h0 : s.cope = 0
  · have HE := Lib.hid (show copedB s = (decide (s.tall = 0) && decide (s.short = 0) && decide (s.thick = 0)) by unfold copedB; rw [if_pos h0])
    have b0 : (s.cope == 0) = true := beq_iff_eq.2 h0
    clear h0
    by_cases h1 : s.tall = 0 <;> by_cases h2 : s.short = 0 <;> by_cases h3 : s.thick = 0
    all_goals
      have HF := Lib.hid HE.out
      clear HE
      go_enter Tryz.func94, Tryz.ntmps94
      go_wp2_with (refine wpList_bx (o := ⟨some 1, _, _, _, _, _⟩) rfl (Sy.enter w) _ _ rfl (cS s).toArray HV.out ?_; intro b V2 h2; have hC := Lib.hid h2; clear h2; have x13 : V2.cell? ⟨b, 13, none⟩ = some (.int .u8 s.cope) := hC.out.cell 0 13 rfl rfl; have x14 : V2.cell? ⟨b, 14, none⟩ = some (.int .i64 s.tall) := hC.out.cell 0 14 rfl rfl; have x15 : V2.cell? ⟨b, 15, none⟩ = some (.int .i64 s.short) := hC.out.cell 0 15 rfl rfl; have x16 : V2.cell? ⟨b, 16, none⟩ = some (.int .i64 s.thick) := hC.out.cell 0 16 rfl rfl)
      go_ret
      exact ⟨ret_bool (by rw [HF.out]; simp [h1, h2, h3]), hC.out.be⟩
  by_cases h1 : s.cope = 1
  · have HE := Lib.hid (show copedB s = [(s.tall, 1, 1000), (s.short, 0, 0), (s.thick, 1, 1000)].all limB by unfold copedB; rw [if_neg h0, if_pos (by omega)])
    have b0 : (s.cope == 0) = false := beq_eq_false_iff_ne.2 (by omega)
    have b1 : (s.cope == 1) = true := beq_iff_eq.2 h1
    clear h0 h1
    go_enter Tryz.func94, Tryz.ntmps94
    go_wp2_with (refine wpList_bx (o := ⟨some 1, _, _, _, _, _⟩) rfl (Sy.enter w) _ _ rfl (cS s).toArray HV.out ?_; intro b V2 h2; have hC := Lib.hid h2; clear h2; have x13 : V2.cell? ⟨b, 13, none⟩ = some (.int .u8 s.cope) := hC.out.cell 0 13 rfl rfl; have x14 : V2.cell? ⟨b, 14, none⟩ = some (.int .i64 s.tall) := hC.out.cell 0 14 rfl rfl; have x15 : V2.cell? ⟨b, 15, none⟩ = some (.int .i64 s.short) := hC.out.cell 0 15 rfl rfl; have x16 : V2.cell? ⟨b, 16, none⟩ = some (.int .i64 s.thick) := hC.out.cell 0 16 rfl rfl)
    refine (kept_any _ _ _ _ [(s.tall, 1, 1000), (s.short, 0, 0), (s.thick, 1, 1000)] ((hC.out.onew V2.heap.size #[.int .i64 s.tall, .int .i64 1, .int .i64 1000, .int .i64 s.short, .int .i64 0, .int .i64 0, .int .i64 s.thick, .int .i64 1, .int .i64 1000] 167 3 3 rfl (by omega) rfl).osx 0 rfl)).mono ?_
    rintro e w1 ⟨rfl, hb⟩
    have hD := Lib.hid ((hC.out.row).call hb)
    clear hb
    go_wp2
    go_ret
    exact ⟨ret_bool (by rw [HE.out]; simp), hD.out.be⟩
  by_cases h2 : s.cope = 2
  · have HE := Lib.hid (show copedB s = [(s.tall, 1, 1000), (s.short, 0, 0), (s.thick, 1, 1000)].all limB by unfold copedB; rw [if_neg h0, if_pos (by omega)])
    have b0 : (s.cope == 0) = false := beq_eq_false_iff_ne.2 (by omega)
    have b1 : (s.cope == 1) = false := beq_eq_false_iff_ne.2 (by omega)
    have b2 : (s.cope == 2) = true := beq_iff_eq.2 h2
    clear h0 h1 h2
    go_enter Tryz.func94, Tryz.ntmps94
    go_wp2_with (refine wpList_bx (o := ⟨some 1, _, _, _, _, _⟩) rfl (Sy.enter w) _ _ rfl (cS s).toArray HV.out ?_; intro b V2 h2; have hC := Lib.hid h2; clear h2; have x13 : V2.cell? ⟨b, 13, none⟩ = some (.int .u8 s.cope) := hC.out.cell 0 13 rfl rfl; have x14 : V2.cell? ⟨b, 14, none⟩ = some (.int .i64 s.tall) := hC.out.cell 0 14 rfl rfl; have x15 : V2.cell? ⟨b, 15, none⟩ = some (.int .i64 s.short) := hC.out.cell 0 15 rfl rfl; have x16 : V2.cell? ⟨b, 16, none⟩ = some (.int .i64 s.thick) := hC.out.cell 0 16 rfl rfl)
    refine (kept_any _ _ _ _ [(s.tall, 1, 1000), (s.short, 0, 0), (s.thick, 1, 1000)] ((hC.out.onew V2.heap.size #[.int .i64 s.tall, .int .i64 1, .int .i64 1000, .int .i64 s.short, .int .i64 0, .int .i64 0, .int .i64 s.thick, .int .i64 1, .int .i64 1000] 167 3 3 rfl (by omega) rfl).osx 0 rfl)).mono ?_
    rintro e w1 ⟨rfl, hb⟩
    have hD := Lib.hid ((hC.out.row).call hb)
    clear hb
    go_wp2
    go_ret
    exact ⟨ret_bool (by rw [HE.out]; simp), hD.out.be⟩
  by_cases h3 : s.cope = 3
  · have HE := Lib.hid (show copedB s = [(s.tall, 1, 1000), (s.short, 1, 1000), (s.thick, 1, 1000)].all limB by unfold copedB; rw [if_neg h0, if_neg (by omega), if_pos h3])
    have b0 : (s.cope == 0) = false := beq_eq_false_iff_ne.2 (by omega)
    have b1 : (s.cope == 1) = false := beq_eq_false_iff_ne.2 (by omega)
    have b2 : (s.cope == 2) = false := beq_eq_false_iff_ne.2 (by omega)
    have b3 : (s.cope == 3) = true := beq_iff_eq.2 h3
    clear h0 h1 h2 h3
    go_enter Tryz.func94, Tryz.ntmps94
    go_wp2_with (refine wpList_bx (o := ⟨some 1, _, _, _, _, _⟩) rfl (Sy.enter w) _ _ rfl (cS s).toArray HV.out ?_; intro b V2 h2; have hC := Lib.hid h2; clear h2; have x13 : V2.cell? ⟨b, 13, none⟩ = some (.int .u8 s.cope) := hC.out.cell 0 13 rfl rfl; have x14 : V2.cell? ⟨b, 14, none⟩ = some (.int .i64 s.tall) := hC.out.cell 0 14 rfl rfl; have x15 : V2.cell? ⟨b, 15, none⟩ = some (.int .i64 s.short) := hC.out.cell 0 15 rfl rfl; have x16 : V2.cell? ⟨b, 16, none⟩ = some (.int .i64 s.thick) := hC.out.cell 0 16 rfl rfl)
    refine (kept_any _ _ _ _ [(s.tall, 1, 1000), (s.short, 1, 1000), (s.thick, 1, 1000)] ((hC.out.onew V2.heap.size #[.int .i64 s.tall, .int .i64 1, .int .i64 1000, .int .i64 s.short, .int .i64 1, .int .i64 1000, .int .i64 s.thick, .int .i64 1, .int .i64 1000] 167 3 3 rfl (by omega) rfl).osx 0 rfl)).mono ?_
    rintro e w1 ⟨rfl, hb⟩
    have hD := Lib.hid ((hC.out.row).call hb)
    clear hb
    go_wp2
    go_ret
    exact ⟨ret_bool (by rw [HE.out]; simp), hD.out.be⟩
  · have HE := Lib.hid (show copedB s = false by unfold copedB; rw [if_neg h0, if_neg (by omega), if_neg h3])
    have b0 : (s.cope == 0) = false := beq_eq_false_iff_ne.2 h0
    have b1 : (s.cope == 1) = false := beq_eq_false_iff_ne.2 h1
    have b2 : (s.cope == 2) = false := beq_eq_false_iff_ne.2 h2
    have b3 : (s.cope == 3) = false := beq_eq_false_iff_ne.2 h3
    clear h0 h1 h2 h3
    go_enter Tryz.func94, Tryz.ntmps94
    go_wp2_with (refine wpList_bx (o := ⟨some 1, _, _, _, _, _⟩) rfl (Sy.enter w) _ _ rfl (cS s).toArray HV.out ?_; intro b V2 h2; have hC := Lib.hid h2; clear h2; have x13 : V2.cell? ⟨b, 13, none⟩ = some (.int .u8 s.cope) := hC.out.cell 0 13 rfl rfl)
    go_ret
    exact ⟨ret_bool HE.out.symm, hC.out.be⟩
end
end Go.Proofs.YtchignmnnbepnaaGreat
namespace Go.Proofs.YtchignmnnbepnaaGreat
open Go.RowKit
/-- a row that the call has made -/
def RetRow (w : World) (t : TypeId) (size n : Nat) (xs : List Value) (e : Ending) (w' : World) : Prop := ∃ a c, e = .returned (.slice a n c) ∧ w'.ownsRow w.heap.size t size (.slice a n c) n xs ∧ Below w.heap.size w w'
theorem L3_snoc (l : List I3) (k : Nat) (h : k < l.length) : L3 (l.take (k + 1)) = L3 (l.take k) ++ c3 l[k] := by rw [List.take_succ_eq_append_getElem h, L3_append]; simp [L3]
theorem LW_snoc (l : List WL) (k : Nat) (h : k < l.length) : LW (l.take (k + 1)) = LW (l.take k) ++ cW l[k] := by rw [List.take_succ_eq_append_getElem h, LW_append]; simp [LW]
theorem und_Load : Tryz.prog.underlying 69 = some (.slice 120) := Tryz.underlying69
theorem info_Load : (Tryz.prog.info? 120).map (fun i => (i.zero, i.size, i.bytes)) = some (some (.agg #[.int .i64 0, .int .i64 0, .int .i64 0]), 3, 24) := by kernel_rfl
end Go.Proofs.YtchignmnnbepnaaGreat
namespace Go.Proofs.YtchignmnnbepnaaGreat
open Go.RowKit
section
variable (w : World)
theorem und_Course : Tryz.prog.underlying 168 = some (.slice 206) := Tryz.underlying168
theorem info_Course : (Tryz.prog.info? 206).map (fun i => (i.zero, i.size, i.bytes)) = some (some (.agg #[.int .i64 0, .int .i64 0]), 2, 16) := by kernel_rfl
theorem L2_snoc1 (l : List I2) (a b : Int) : L2 (l ++ [(a, b)]) = L2 l ++ [.int .i64 a, .int .i64 b] := by rw [L2_append]; rfl
set_option maxHeartbeats 16000000 in
set_option maxRecDepth 100000 in
theorem pcourses_any (s : Sht) (hs : Sx 1 w s.ha s.hn s.hc (L1 s.hs)) (hn : 0 < s.hn) (hh : ∀ h ∈ s.hs, 1 ≤ h ∧ h ≤ 1000) (hH : 1 ≤ s.height ∧ s.height ≤ 3000) (hL : 1 ≤ s.least) :
    Calls Tryz.prog 96 #[aS s] w (RetRow w 206 2 (coursesL s.hs s.height s.least).length (L2 (coursesL s.hs s.height s.least))) := by
  have hlen := hs.n1
  have hcap := hs.cap
  unfold maxLen at hcap
  obtain ⟨g0, o0, e0⟩ := hs.addr hn
  have HS := Lib.hid (show Sx 1 w (some ⟨g0, o0, none⟩) s.hn s.hc (L1 s.hs) by rw [← e0]; exact hs)
  have HH := Lib.hid hh
  have HL := Lib.hid hL
  have E0 := Lib.hid e0
  obtain ⟨V, hV⟩ : ∃ V, aS s = V := ⟨_, rfl⟩
  have HV := Lib.hid (show V.cells = (cS s).toArray by rw [← hV]; rfl)
  rw [hV]
  have hH0 := hH.1
  have hH1 := hH.2
  clear hV hs hh e0 hL hH
  go_enter Tryz.func96, Tryz.ntmps96
  go_wp2_with (refine wpList_bx (o := ⟨some 1, _, _, _, _, _⟩) rfl (Sy.enter w) _ _ rfl (cS s).toArray HV.out ?_; intro b V2 h2; have hC := Lib.hid h2; clear h2)
  go_loopw [3, 4, 5] (fun ov zv iv wr => ∃ (k : Nat) (z : Int) (out : List I2) (a : Option Addr) (c : Nat), ov = .slice a k c ∧ zv = .int .i64 z ∧ iv = .int .i64 k ∧ Hid (Laying s.hs s.height out k z) ∧ Hid (Sy w wr [(b, (cS s).toArray, 92)] [⟨.slice a k c, 206, 2, k, L2 out⟩] [])) (fun _ _ iv _ => 4000 - (intOf iv).toNat)
  case atStart => exact ⟨0, 0, [], none, 0, rfl, rfl, rfl, Lib.hid (laying_start _ (by omega)), Lib.hid (hC.out.onil _ 2)⟩
  case round =>
    clear hC
    obtain ⟨k, z, out, a, c, rfl, rfl, rfl, HLY, hC⟩ := hrel
    have hkz := HLY.out.2.1
    have hzH := HLY.out.2.2.1
    obtain ⟨j, hj, hje, hat⟩ := hAt_in (hs := s.hs) (k := k) (by omega)
    have hin := HH.out s.hs[j] (List.getElem_mem hj)
    have x3 : wr.cell? ⟨b, 3, none⟩ = some (.int .i64 s.height) := hC.out.cell 0 3 rfl rfl
    have x5 : wr.cell? ⟨b, 5, none⟩ = some (.slice (some ⟨g0, o0, none⟩) s.hn s.hc) := by rw [← E0.out]; exact hC.out.cell 0 5 rfl rfl
    have y0 : wr.cell? ⟨g0, o0 + (min (k : Int) ((s.hs.length : Int) - 1)).toNat, none⟩ = some (.int .i64 (hAt s.hs k)) := by
      have h := (hC.out.sx HS.out).at1 hj
      rw [hat, show (min (k : Int) ((s.hs.length : Int) - 1)).toNat = j by omega]
      exact h
    have HST := Lib.hid (fun h1 ht => laying_step HLY.out hH1 h1 ht)
    have HEN := Lib.hid (fun ht => laying_end HLY.out hH1 ht)
    have hol : out.length = k := HLY.out.1
    rw [← hat] at hin
    clear hje hat hj
    clear j
    generalize hAt s.hs k = h at *
    obtain ⟨hi1, hi2⟩ := hin
    by_cases hT : s.height < z + h
    · have HCD := Lib.hid (fun l => courses_done (least := l) (HEN.out hT))
      clear HST HEN HLY
      have HOL := Lib.hid hol
      clear hol
      have x6 : wr.cell? ⟨b, 6, none⟩ = some (.int .i64 s.least) := hC.out.cell 0 6 rfl rfl
      have ks : (k : Int) ≤ 3000 := by omega
      by_cases hz : z = s.height
      · have HCE := Lib.hid (show coursesL s.hs s.height s.least = out by rw [HCD.out, if_pos hz])
        have hzz : s.height - z = 0 := by omega
        clear HCD
        as_aux_lemma =>
        go_wp2
        go_ret
        refine ⟨a, c, ?_, ?_, hC.out.be⟩
        · rw [HCE.out, HOL.out]; rfl
        · rw [HCE.out, HOL.out]; exact hC.out.gives 0 rfl
      · have HCE := Lib.hid (HCD.out s.least)
        rw [if_neg hz] at HCE
        have hzz : (s.height - z == 0) = false := beq_eq_false_iff_ne.2 (by omega)
        clear HCD
        by_cases hl : s.least ≤ s.height - z
        · rw [if_pos (.inl hl)] at HCE
          as_aux_lemma =>
          go_wp2_with (refine wpList_append_sy (o := ⟨some 68, _, _, _, _, _⟩) rfl (hC.out.onew wr.heap.size #[.int .i64 z, .int .i64 s.height] 206 2 1 rfl (by omega) rfl) 0 1 rfl rfl _ _ _ rfl und_Course info_Course rfl (by omega) rfl rfl (by intro u hu; simp at hu; rcases hu with rfl | rfl <;> rfl) (by omega) (by omega) ?_; intro a3 c3 V3 hV3; have hJ := Lib.hid hV3; clear hV3)
          go_ret
          refine ⟨a3, c3, ?_, ?_, hJ.out.be⟩
          · rw [HCE.out, List.length_append, HOL.out]; rfl
          · rw [HCE.out, List.length_append, HOL.out, L2_snoc1]; exact hJ.out.gives 0 rfl
        · by_cases hk0 : k = 0
          · rw [if_pos (.inr (List.length_eq_zero_iff.1 (by rw [HOL.out]; exact hk0)))] at HCE
            have hkb : ((k : Int) == 0) = true := beq_iff_eq.2 (by omega)
            clear hk0
            as_aux_lemma =>
            go_wp2_with (refine wpList_append_sy (o := ⟨some 68, _, _, _, _, _⟩) rfl (hC.out.onew wr.heap.size #[.int .i64 z, .int .i64 s.height] 206 2 1 rfl (by omega) rfl) 0 1 rfl rfl _ _ _ rfl und_Course info_Course rfl (by omega) rfl rfl (by intro u hu; simp at hu; rcases hu with rfl | rfl <;> rfl) (by omega) (by omega) ?_; intro a3 c3 V3 hV3; have hJ := Lib.hid hV3; clear hV3)
            go_ret
            refine ⟨a3, c3, ?_, ?_, hJ.out.be⟩
            · rw [HCE.out, List.length_append, HOL.out]; rfl
            · rw [HCE.out, List.length_append, HOL.out, L2_snoc1]; exact hJ.out.gives 0 rfl
          · rw [if_neg (fun hh => hh.elim hl (fun he => hk0 (by rw [← HOL.out, he]; rfl)))] at HCE
            have hkb : ((k : Int) == 0) = false := beq_eq_false_iff_ne.2 (by omega)
            obtain ⟨g1, rfl, _⟩ := hC.out.oaddr 0 rfl (by omega)
            have hk1 : 1 ≤ (k : Int) := by omega
            obtain ⟨front, last, rfl⟩ : ∃ front last, out = front ++ [last] := by
              rcases List.eq_nil_or_concat out with h0 | ⟨f0, l0, h0⟩
              · exact absurd (by rw [← HOL.out, h0]; rfl) hk0
              · exact ⟨f0, l0, by rw [h0, List.concat_eq_append]⟩
            obtain ⟨l1, l2⟩ := last
            have hfl : front.length = k - 1 := by have h := HOL.out; rw [List.length_append] at h; simp at h; omega
            have y1 : wr.cell? ⟨g1, (k - 1) * 2 + 1, none⟩ = some (.int .i64 l2) := hC.out.rcell 0 rfl (by
              rw [L2_snoc1, List.getElem?_append_right (by rw [L2_len, hfl]; omega), L2_len, hfl, show (k - 1) * 2 + 1 - (k - 1) * 2 = 1 by omega]
              rfl)
            have y2 := hC.out.rfree 0 rfl ((k - 1) * 2 + 1)
            have hS := Lib.hid (hC.out.ostore 0 rfl ((k - 1) * 2 + 1) (.int .i64 s.height))
            have HLS := Lib.hid (show (L2 (front ++ [(l1, l2)])).set ((k - 1) * 2 + 1) (.int .i64 s.height) = L2 (front ++ [(l1, s.height)]) by
              rw [L2_snoc1, L2_snoc1, List.set_append_right _ _ (by rw [L2_len, hfl]; omega), L2_len, hfl, show (k - 1) * 2 + 1 - (k - 1) * 2 = 1 by omega]
              rfl)
            rw [show (front ++ [(l1, l2)]).dropLast = front by simp, show ((front ++ [(l1, l2)]).getLastD (0, 0)).1 = l1 by simp] at HCE
            have HFL := Lib.hid hfl
            clear hfl
            as_aux_lemma =>
            go_wp2
            go_ret
            refine ⟨some ⟨g1, 0, none⟩, c, ?_, ?_, hS.out.be⟩
            · rw [HCE.out, List.length_append, HFL.out, show k - 1 + [(l1, s.height)].length = k by simp; omega]
              rfl
            · rw [HCE.out, List.length_append, HFL.out, show k - 1 + [(l1, s.height)].length = k by simp; omega]
              have h := hS.out.gives 0 rfl
              rw [HLS.out] at h
              exact h
    · have HNX := Lib.hid (HST.out hi1 hT)
      clear HST HEN HLY
      go_wp2_with (refine wpList_append_sy (o := ⟨some 33, _, _, _, _, _⟩) rfl (hC.out.onew wr.heap.size #[.int .i64 z, .int .i64 (z + h)] 206 2 1 rfl (by omega) rfl) 0 1 rfl rfl _ _ _ rfl und_Course info_Course rfl (by omega) rfl rfl (by intro u hu; simp at hu; rcases hu with rfl | rfl <;> rfl) (by omega) (by omega) ?_; intro a3 c3 V3 hV3; have hJ := Lib.hid (hV3.thin (List.Sublist.refl _) (List.Sublist.cons_cons _ (List.nil_sublist _))); clear hV3)
      go_roundw
      case rel => exact ⟨k + 1, z + h, out ++ [(z, z + h)], a3, c3, rfl, rfl, by go_num, HNX, by rw [L2_snoc1]; exact hJ⟩
      case measure => simp [intOf]; omega
end
end Go.Proofs.YtchignmnnbepnaaGreat

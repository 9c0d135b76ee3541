/- sheets and walls copied: what stays the same -/
/- the reference's FindSheet, FindWall -/
import Derived.Test.YtchignmnnbepnaaGreatJ27
import Derived.Test.YtchignmnnbepnaaGreatJ14
import Derived.Test.YtchignmnnbepnaaGreatJ22
namespace Go.Proofs.YtchignmnnbepnaaGreat
open Go.RowKit
/-- without the addresses -/
def nS (s : Sht) : Sht := { s with ha := none, hc := 0 }
def nW (x : Wal) : Wal := { x with oa := none, oc := 0 }
theorem nS_sheet (s : Sht) : sheetB (nS s) = sheetB s := rfl
theorem nW_wall (x : Wal) (s : Sht) : wallB (nW x) (nS s) = wallB x s := rfl
theorem isS_n (nm : ByteArray) : isS nm ∘ nS = isS nm := rfl
theorem isW_n (nm : ByteArray) : isW nm ∘ nW = isW nm := rfl
theorem idxB_map {α β : Type} (f : α → β) (p : β → Bool) (l : List α) : idxB p (l.map f) = idxB (p ∘ f) l := by
  unfold idxB
  rw [List.findIdx?_map]
theorem okSheet_n (S : List Sht) (i : Nat) : okSheet (S.map nS) i = okSheet S i := by
  unfold okSheet
  rw [List.getElem?_map]
  cases S[i]? with
  | none => rfl
  | some s =>
    simp only [Option.map_some]
    rw [← List.map_take, List.any_map, isS_n, nS_sheet]
    rfl
theorem okWall_n (S : List Sht) (L : List Wal) (i : Nat) : okWall (S.map nS) (L.map nW) i = okWall S L i := by
  unfold okWall
  rw [List.getElem?_map]
  cases L[i]? with
  | none => rfl
  | some x =>
    simp only [Option.map_some]
    rw [List.find?_map, idxB_map, isW_n, isS_n, show (nW x).sheet = x.sheet from rfl, show (nW x).name = x.name from rfl]
    cases S.find? (isS x.sheet) with
    | none => rfl
    | some s => simp only [Option.map_some]; rw [nW_wall]
theorem planB_n (S : List Sht) (L : List Wal) : planB (S.map nS) (L.map nW) = planB S L := by
  unfold planB
  rw [List.length_map, List.length_map, show okSheet (S.map nS) = okSheet S from funext (okSheet_n S), show okWall (S.map nS) (L.map nW) = okWall S L from funext (okWall_n S L)]
end Go.Proofs.YtchignmnnbepnaaGreat
namespace Go.Proofs.YtchignmnnbepnaaGreat
open Go.RowKit
section
variable (w : World)
set_option maxHeartbeats 8000000 in
set_option maxRecDepth 100000 in
theorem refFindSheet_any (a : Option Addr) (n c : Nat) (l : List Sht) (ot : Value) (nm : ByteArray) (hs : Sx 20 w a n c (LS l)) : Calls Tryz.prog 16 #[.agg #[.slice a n c, ot], .string nm] w (Gives (.int .i64 (idxB (isS nm) l)) w) := by
  obtain rfl := hs.nS
  have hcap := hs.cap
  unfold maxLen at hcap
  have HS := Lib.hid hs
  clear hs
  have hC := Lib.hid ((Sy.enter w).al w.heap.size #[.slice a l.length c, ot] 25 rfl)
  have x0 : (w.alloc (.cells #[.slice a l.length c, ot] 25)).cell? ⟨w.heap.size, 0, none⟩ = some (.slice a l.length c) := hC.out.cell 0 0 rfl rfl
  go_enter Tryz.func16, Tryz.ntmps16
  go_upto_region 1 with fail
  generalize (w.alloc (.cells #[.slice a l.length c, ot] 25)) = W1 at *
  go_wp2
  go_loop [5] (fun iv => ∃ k : Nat, k ≤ l.length ∧ iv = .int .i64 k ∧ Hid (∀ i (h : i < l.length), i < k → isS nm l[i] = false)) (fun iv => l.length - (intOf iv).toNat)
  case atStart => exact ⟨0, Nat.zero_le _, rfl, Lib.hid (fun i _ h => absurd h (Nat.not_lt_zero i))⟩
  case round =>
    obtain ⟨k, hk, rfl, hI⟩ := hrel
    by_cases hlt : k < l.length
    · obtain ⟨g0, o0, rfl⟩ := HS.out.addr (by omega)
      obtain ⟨y0, -⟩ := (HS.out.below hC.out.be).atS hlt
      have HN := Lib.hid (show isS nm l[k] = false → ∀ i (h : i < l.length), i < k + 1 → isS nm l[i] = false from fun hx i h hi => by
        rcases Nat.lt_or_ge i k with h1 | h1
        · exact hI.out i h h1
        · have : i = k := by omega
          subst this; exact hx)
      have HY := Lib.hid (show isS nm l[k] = true → idxB (isS nm) l = k from fun hx => idxB_some hlt hx (fun i h hi => hI.out i h hi))
      have i0 : (0 : Int) ≤ (k : Int) := by omega
      have i1 : (k : Int) < (l.length : Int) := by omega
      clear hI
      have he : isS nm l[k] = (l[k].name.toList == nm.toList) := rfl
      rw [he] at HN HY
      clear he
      generalize l[k].name = t at *
      cases ht : (t.toList == nm.toList)
      · have HF := Lib.hid (HN.out ht)
        clear HN HY
        go_wp2
        go_round
        case rel => exact ⟨k + 1, by omega, by go_num, HF⟩
        case measure => simp [intOf]; omega
      · have HF := Lib.hid (HY.out ht)
        clear HN HY
        go_wp2
        go_ret
        exact ⟨ret_int HF.out.symm, hC.out.be⟩
    · have hkk : ¬ (k : Int) < (l.length : Int) := by omega
      have HF := Lib.hid (idxB_none (fun i h => hI.out i h (by omega)))
      go_wp2
      go_ret
      exact ⟨ret_int HF.out.symm, hC.out.be⟩
set_option maxHeartbeats 8000000 in
set_option maxRecDepth 100000 in
theorem refFindWall_any (a : Option Addr) (n c : Nat) (l : List Wal) (ot : Value) (nm : ByteArray) (hs : Sx 4 w a n c (LWa l)) : Calls Tryz.prog 14 #[.agg #[ot, .slice a n c], .string nm] w (Gives (.int .i64 (idxB (isW nm) l)) w) := by
  obtain rfl := hs.nWa
  have hcap := hs.cap
  unfold maxLen at hcap
  have HS := Lib.hid hs
  clear hs
  have hC := Lib.hid ((Sy.enter w).al w.heap.size #[ot, .slice a l.length c] 25 rfl)
  have x0 : (w.alloc (.cells #[ot, .slice a l.length c] 25)).cell? ⟨w.heap.size, 1, none⟩ = some (.slice a l.length c) := hC.out.cell 0 1 rfl rfl
  go_enter Tryz.func14, Tryz.ntmps14
  go_upto_region 1 with fail
  generalize (w.alloc (.cells #[ot, .slice a l.length c] 25)) = W1 at *
  go_wp2
  go_loop [5] (fun iv => ∃ k : Nat, k ≤ l.length ∧ iv = .int .i64 k ∧ Hid (∀ i (h : i < l.length), i < k → isW nm l[i] = false)) (fun iv => l.length - (intOf iv).toNat)
  case atStart => exact ⟨0, Nat.zero_le _, rfl, Lib.hid (fun i _ h => absurd h (Nat.not_lt_zero i))⟩
  case round =>
    obtain ⟨k, hk, rfl, hI⟩ := hrel
    by_cases hlt : k < l.length
    · obtain ⟨g0, o0, rfl⟩ := HS.out.addr (by omega)
      obtain ⟨y0, -⟩ := (HS.out.below hC.out.be).atWa hlt
      have HN := Lib.hid (show isW nm l[k] = false → ∀ i (h : i < l.length), i < k + 1 → isW nm l[i] = false from fun hx i h hi => by
        rcases Nat.lt_or_ge i k with h1 | h1
        · exact hI.out i h h1
        · have : i = k := by omega
          subst this; exact hx)
      have HY := Lib.hid (show isW nm l[k] = true → idxB (isW nm) l = k from fun hx => idxB_some hlt hx (fun i h hi => hI.out i h hi))
      have i0 : (0 : Int) ≤ (k : Int) := by omega
      have i1 : (k : Int) < (l.length : Int) := by omega
      clear hI
      have he : isW nm l[k] = (l[k].name.toList == nm.toList) := rfl
      rw [he] at HN HY
      clear he
      generalize l[k].name = t at *
      cases ht : (t.toList == nm.toList)
      · have HF := Lib.hid (HN.out ht)
        clear HN HY
        go_wp2
        go_round
        case rel => exact ⟨k + 1, by omega, by go_num, HF⟩
        case measure => simp [intOf]; omega
      · have HF := Lib.hid (HY.out ht)
        clear HN HY
        go_wp2
        go_ret
        exact ⟨ret_int HF.out.symm, hC.out.be⟩
    · have hkk : ¬ (k : Int) < (l.length : Int) := by omega
      have HF := Lib.hid (idxB_none (fun i h => hI.out i h (by omega)))
      go_wp2
      go_ret
      exact ⟨ret_int HF.out.symm, hC.out.be⟩
end
end Go.Proofs.YtchignmnnbepnaaGreat

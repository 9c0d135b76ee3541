/- the library's stable sort of at most 60 indices -/
import Derived.Test.YteogibpmpppgmaaM6
namespace Go.Proofs.Yteogibpmpppgmaa
open Go.RowKit
def InBlk (S n : Nat) (f : Nat → Nat) : Prop := ∀ x, x < n → S * (x / S) ≤ f x ∧ f x < S * (x / S) + S
def SrtBlk (R : Nat → Nat → Prop) (S n : Nat) (f : Nat → Nat) : Prop := ∀ x y, x < y → y < n → x / S = y / S → R (f x) (f y)
section
variable {l : List I2} {f h : Nat → Nat} {n : Nat}
theorem cross_vals {f : Nat → Nat} {a m b : Nat} (hv : ∀ x y, a ≤ x → x < m → m ≤ y → y < b → f x < f y) : CrossOn (before l) (keyOf l) f a m b := fun x y h1 h2 h3 h4 => by
  have h5 := hv x y h1 h2 h3 h4
  unfold keyOf before
  omega
theorem blk20_step {k : Nat} (_hk : 20 * k ≤ n) (hB : InBlk 20 n f) (hS : ∀ x y, x < y → y < 20 * k → x / 20 = y / 20 → before l (f x) (f y)) (hI : ∀ x, 20 * k ≤ x → x < n → f x = x) {b : Nat} (hb1 : 20 * k ≤ b) (hb2 : b ≤ 20 * k + 20) (hbn : b ≤ n) (hm : MoveOn f h (20 * k) b) (hs : SrtOn (before l) h (20 * k) b) :
    InBlk 20 n h ∧ (∀ x y, x < y → y < b → x / 20 = y / 20 → before l (h x) (h y)) ∧ (∀ x, b ≤ x → x < n → h x = x) := by
  refine ⟨fun x hx => ?_, fun x y hxy hy hd => ?_, fun x hx hxn => ?_⟩
  · by_cases hc : 20 * k ≤ x ∧ x < b
    · obtain ⟨j, j1, j2, e⟩ := hm.2 x hc.1 hc.2
      rw [e, hI j j1 (by omega)]
      omega
    · rw [hm.1 x (by omega)]
      exact hB x hx
  · by_cases hc : 20 * k ≤ x
    · exact hs x y hc hxy hy
    · by_cases hc2 : y < 20 * k
      · rw [hm.1 x (.inl (by omega)), hm.1 y (.inl hc2)]
        exact hS x y hxy hc2 hd
      · omega
  · rw [hm.1 x (.inr hx)]
    exact hI x (by omega) hxn
theorem blk_vals {S : Nat} (hB : InBlk S n f) {a m b : Nat} (hd : ∀ x y, a ≤ x → x < m → m ≤ y → y < b → S * (x / S) + S ≤ S * (y / S)) (hb : b ≤ n) : ∀ x y, a ≤ x → x < m → m ≤ y → y < b → f x < f y := fun x y h1 h2 h3 h4 => by
  have h5 := hB x (by omega)
  have h6 := hB y (by omega)
  have h7 := hd x y h1 h2 h3 h4
  omega
/-- the first pair of blocks is merged -/
theorem pair40 (hn : n ≤ 60) (hB : InBlk 20 n f) (hS : SrtBlk (before l) 20 n f) {b : Nat} (hb : b ≤ n) (hb2 : b ≤ 40) (hb3 : b = n ∨ b = 40) (hm : MoveOn f h 0 b) (hs : SrtOn (before l) h 0 b) : InBlk 40 n h ∧ SrtBlk (before l) 40 n h := by
  refine ⟨fun x hx => ?_, fun x y hxy hy hd => ?_⟩
  · by_cases hc : x < b
    · obtain ⟨j, j1, j2, e⟩ := hm.2 x (Nat.zero_le _) hc
      have h1 := hB j (by omega)
      rw [e]
      omega
    · rw [hm.1 x (.inr (by omega))]
      have h1 := hB x hx
      omega
  · by_cases hc : y < b
    · exact hs x y (Nat.zero_le _) hxy hc
    · have hx : b ≤ x := by omega
      rw [hm.1 x (.inr hx), hm.1 y (.inr (by omega))]
      exact hS x y hxy hy (by omega)
end
section
variable (l : List I2) (w : World) (bs : List (Nat × Array Value × TypeId)) (os : List Rw) (rs : List (World → Prop)) (i g c' : Nat)
set_option maxHeartbeats 8000000 in
set_option maxRecDepth 100000 in
theorem stable_any (gF : Nat) (cb : Array Value) (cf : Nat → Nat → Int) (eg : EG gF) (hcf : ∀ x y, cf x y < 0 ↔ keyOf l x < keyOf l y) (hcmp : CmpOk l w bs os rs i g c' gF cb cf) (hl : l.length ≤ 60) (W : World) (p : List Nat) (h : SR l w bs os rs i g c' W p) (hid : ∀ k, k < l.length → fnOf p k = k) :
    Calls Try.prog 67 #[.slice (some ⟨g, 0, none⟩) l.length c', .int .i64 l.length, .func (.func gF) #[] cb] W (RetMG l w bs os rs i g c' p 0 l.length) := by
  have H := Lib.hid h
  have HI := Lib.hid hid
  have HIN := Lib.hid (fun W q a b hq hab hb hi => insertion_any l w bs os rs i g c' gF cb cf eg hcf hcmp (by omega) W q a b hq hab hb hi)
  have HSM := Lib.hid (fun W q a m b hq ham hmb hb h1 h2 h3 => symMerge_any l w bs os rs i g c' gF cb cf eg hcf hcmp (by omega) (b - a) W q a m b (Nat.le_refl _) hq ham hmb hb h1 h2 h3)
  clear h hid hcf hcmp
  generalize hn : l.length = n at *
  have HNL := Lib.hid hn
  clear hn
  go_enter Try.func67, Try.ntmps67
  go_wp2
  go_loopw [7, 8] (fun av bv wr => ∃ (k : Nat) (q : List Nat), 20 * k ≤ n ∧ av = .int .i64 (20 * k : Nat) ∧ bv = .int .i64 (20 * k + 20 : Nat) ∧ Hid (SR l w bs os rs i g c' wr q) ∧ Hid (q.Perm p) ∧ Hid (InBlk 20 n (fnOf q)) ∧ Hid (∀ x y, x < y → y < 20 * k → x / 20 = y / 20 → before l (fnOf q x) (fnOf q y)) ∧ Hid (∀ x, 20 * k ≤ x → x < n → fnOf q x = x)) (fun av _ _ => n - (intOf av).toNat)
  case atStart => exact ⟨0, p, Nat.zero_le _, rfl, rfl, H, Lib.hid (List.Perm.refl _), Lib.hid (fun x hx => by rw [HI.out x hx]; omega), Lib.hid (fun x y h1 h2 => by omega), Lib.hid (fun x _ hx => HI.out x hx)⟩
  case round =>
    clear H
    obtain ⟨k, q, hkn, rfl, rfl, H, HP, HB, HS, HX⟩ := hrel
    by_cases hlt : 20 * k + 20 ≤ n
    · have hc := Lib.hid (HIN.out wr q (20 * k) (20 * k + 20) H.out (by omega) (by omega) (fun x h1 h2 => HX.out x h1 (by omega)))
      have HST := Lib.hid (fun (h : Nat → Nat) hm hs => blk20_step (l := l) (h := h) hkn HB.out HS.out HX.out (b := 20 * k + 20) (by omega) (Nat.le_refl _) (by omega) hm hs)
      have hk2 : 20 * (k + 1) = 20 * k + 20 := by omega
      generalize hA : 20 * k = A at *
      generalize hBv : A + 20 = B at *
      have h1 : (B : Int) ≤ (n : Int) := by omega
      have wb : IntKind.i64.wrap ((B : Int) + 20) = ((B + 20 : Nat) : Int) := by rw [IntWalk.i64_in _ (by omega)]; omega
      have HK2 := Lib.hid hk2
      have hBn : B ≤ n := by omega
      have hAB : A < B := by omega
      clear hA hBv hk2 HB HS HX
      go_wp2_with fail
      refine hc.out.mono ?_
      rintro e V ⟨rfl, q2, h5, h6, h7, h8⟩
      have H5 := Lib.hid h5
      have H6 := Lib.hid (h6.trans HP.out)
      have h9 := HST.out _ h7 h8
      have H9 := Lib.hid h9
      clear h5 h6 h7 h8 h9 HST hc
      generalize hB2 : B + 20 = B2 at *
      have HB2 := Lib.hid hB2
      clear hB2
      go_wp2
      go_roundw
      case rel => exact ⟨k + 1, q2, by rw [HK2.out]; exact hBn, by rw [HK2.out], by rw [HK2.out, HB2.out], H5, H6, Lib.hid H9.out.1, Lib.hid (by rw [HK2.out]; exact H9.out.2.1), Lib.hid (by rw [HK2.out]; exact H9.out.2.2)⟩
      case measure => simp [intOf]; omega
    · have hc := Lib.hid (HIN.out wr q (20 * k) n H.out hkn (by omega) (fun x h1 h2 => HX.out x h1 (by omega)))
      have HST := Lib.hid (fun (h : Nat → Nat) hm hs => blk20_step (l := l) (h := h) hkn HB.out HS.out HX.out (b := n) hkn (by omega) (Nat.le_refl _) hm hs)
      have h1 : ¬ ((20 * k + 20 : Nat) : Int) ≤ (n : Int) := by omega
      generalize 20 * k + 20 = B at *
      generalize 20 * k = A at *
      clear HB HS HX
      go_wp2_with fail
      refine hc.out.mono ?_
      rintro e V ⟨rfl, q2, h5, h6, h7, h8⟩
      have H := Lib.hid h5
      have HP := Lib.hid (h6.trans HP.out)
      have h9 := HST.out _ h7 h8
      have H9 := Lib.hid (show InBlk 20 n (fnOf q2) ∧ SrtBlk (before l) 20 n (fnOf q2) from ⟨h9.1, h9.2.1⟩)
      clear h5 h6 h7 h8 h9 HST hc hlt hkn h1
      go_wp2
      go_loopw [6] (fun sv wr => ∃ q : List Nat, Hid (SR l w bs os rs i g c' wr q) ∧ Hid (q.Perm p) ∧ ((sv = .int .i64 20 ∧ Hid (InBlk 20 n (fnOf q) ∧ SrtBlk (before l) 20 n (fnOf q))) ∨ (sv = .int .i64 40 ∧ 20 < n ∧ Hid (InBlk 40 n (fnOf q) ∧ SrtBlk (before l) 40 n (fnOf q))) ∨ (sv = .int .i64 80 ∧ 40 < n ∧ Hid (SrtOn (before l) (fnOf q) 0 n)))) (fun sv _ => 100 - (intOf sv).toNat)
      case atStart => exact ⟨q2, H, HP, .inl ⟨rfl, H9⟩⟩
      case round =>
        clear H HP H9
        obtain ⟨q, H, HP, hst⟩ := hrel
        have HMV := Lib.hid (show ∀ q : List Nat, SR l w bs os rs i g c' wr q → q.Perm p → SrtOn (before l) (fnOf q) 0 n → RetMG l w bs os rs i g c' p 0 n (.returned (.tuple #[])) wr from fun q hq hp hs => ⟨rfl, q, hq, hp, ⟨fun x hx => by
          have hx2 : n ≤ x := by omega
          have e1 : q.length ≤ x := by rw [hq.len, HNL.out]; exact hx2
          have e2 : p.length ≤ x := by rw [← hp.length_eq]; exact e1
          unfold fnOf
          rw [List.getD_eq_getElem?_getD, List.getD_eq_getElem?_getD, List.getElem?_eq_none e1, List.getElem?_eq_none e2], fun x _ hx => ⟨fnOf q x, Nat.zero_le _, by have := hq.fn_lt (k := x) (by rw [HNL.out]; exact hx); rw [HNL.out] at this; exact this, by
            have := hq.fn_lt (k := x) (by rw [HNL.out]; exact hx)
            rw [HNL.out] at this
            exact (HI.out _ this).symm⟩⟩, hs⟩)
        rcases hst with ⟨rfl, H9⟩ | ⟨rfl, hn20, H9⟩ | ⟨rfl, hn40, H9⟩
        · by_cases h20 : 20 < n
          · have g20 : (20 : Int) < (n : Int) := by omega
            by_cases h40 : 40 ≤ n
            · have g40 : (40 : Int) ≤ (n : Int) := by omega
              have g60 : ¬ (60 : Int) < (n : Int) := by omega
              have g80 : ¬ (80 : Int) ≤ (n : Int) := by omega
              have hc := Lib.hid (HSM.out wr q 0 20 40 H.out (by omega) (by omega) h40 (fun x y h1 h2 h3 => H9.out.2 x y h2 (by omega) (by omega)) (fun x y h1 h2 h3 => H9.out.2 x y h2 (by omega) (by omega)) (cross_vals (blk_vals H9.out.1 (fun x y h1 h2 h3 h4 => by omega) h40)))
              have HP40 := Lib.hid (fun (h : Nat → Nat) hm hs => pair40 (l := l) (h := h) hl H9.out.1 H9.out.2 (b := 40) h40 (Nat.le_refl _) (.inr rfl) hm hs)
              clear H9 HMV
              go_wp2
              go_loopw [7, 8] (fun av bv wr2 => (av = .int .i64 0 ∧ bv = .int .i64 40 ∧ Hid (wr2 = wr)) ∨ (av = .int .i64 40 ∧ bv = .int .i64 80 ∧ ∃ q2 : List Nat, Hid (SR l w bs os rs i g c' wr2 q2) ∧ Hid (q2.Perm p) ∧ Hid (InBlk 40 n (fnOf q2) ∧ SrtBlk (before l) 40 n (fnOf q2)))) (fun av _ _ => 100 - (intOf av).toNat)
              case atStart => exact .inl ⟨rfl, rfl, Lib.hid rfl⟩
              case round =>
                rcases hrel with ⟨rfl, rfl, hwr⟩ | ⟨rfl, rfl, q2, H2, HP2, HX2⟩
                · obtain rfl := hwr.out
                  go_wp2_with fail
                  refine hc.out.mono ?_
                  rintro e V ⟨rfl, q2, h5, h6, h7, h8⟩
                  have H5 := Lib.hid h5
                  have H6 := Lib.hid (h6.trans HP.out)
                  have H7 := Lib.hid (HP40.out _ h7 h8)
                  clear h5 h6 h7 h8 hc
                  go_wp2
                  go_roundw
                  case rel => exact .inr ⟨rfl, rfl, q2, H5, H6, H7⟩
                  case measure => simp [intOf]
                · clear hc HP40 H HP
                  go_wp2
                  go_roundw
                  case rel => exact ⟨q2, H2, HP2, .inr (.inl ⟨rfl, h20, HX2⟩)⟩
                  case measure => simp [intOf]
            · have g40 : ¬ (40 : Int) ≤ (n : Int) := by omega
              have hc := Lib.hid (HSM.out wr q 0 20 n H.out (by omega) (by omega) (Nat.le_refl _) (fun x y h1 h2 h3 => H9.out.2 x y h2 (by omega) (by omega)) (fun x y h1 h2 h3 => H9.out.2 x y h2 (by omega) (by omega)) (cross_vals (blk_vals H9.out.1 (fun x y h1 h2 h3 h4 => by omega) (Nat.le_refl _))))
              have HP40 := Lib.hid (fun (h : Nat → Nat) hm hs => pair40 (l := l) (h := h) hl H9.out.1 H9.out.2 (b := n) (Nat.le_refl _) (by omega) (.inl rfl) hm hs)
              clear H9 HMV
              go_wp2
              refine wp_loop_once ?_
              go_wp2_with fail
              refine hc.out.mono ?_
              rintro e V ⟨rfl, q2, h5, h6, h7, h8⟩
              have H5 := Lib.hid h5
              have H6 := Lib.hid (h6.trans HP.out)
              have H7 := Lib.hid (HP40.out _ h7 h8)
              clear h5 h6 h7 h8 hc
              go_wp2
              go_roundw
              case rel => exact ⟨q2, H5, H6, .inr (.inl ⟨rfl, h20, H7⟩)⟩
              case measure => simp [intOf]
          · have g20 : ¬ (20 : Int) < (n : Int) := by omega
            have HR := Lib.hid (HMV.out q H.out HP.out (fun x y _ h2 h3 => H9.out.2 x y h2 h3 (by omega)))
            clear HMV
            go_wp2
            go_end0
            exact HR.out
        · by_cases h40 : 40 < n
          · have g40 : (40 : Int) < (n : Int) := by omega
            have g80 : ¬ (80 : Int) ≤ (n : Int) := by omega
            have hc := Lib.hid (HSM.out wr q 0 40 n H.out (by omega) h40 (Nat.le_refl _) (fun x y h1 h2 h3 => H9.out.2 x y h2 (by omega) (by omega)) (fun x y h1 h2 h3 => H9.out.2 x y h2 (by omega) (by omega)) (cross_vals (blk_vals H9.out.1 (fun x y h1 h2 h3 h4 => by omega) (Nat.le_refl _))))
            clear H9 HMV
            go_wp2
            refine wp_loop_once ?_
            go_wp2_with fail
            refine hc.out.mono ?_
            rintro e V ⟨rfl, q2, h5, h6, h7, h8⟩
            have H5 := Lib.hid h5
            have H6 := Lib.hid (h6.trans HP.out)
            have H7 := Lib.hid h8
            clear h5 h6 h7 h8 hc
            go_wp2
            go_roundw
            case rel => exact ⟨q2, H5, H6, .inr (.inr ⟨rfl, h40, H7⟩)⟩
            case measure => simp [intOf]
          · have g40 : ¬ (40 : Int) < (n : Int) := by omega
            have HR := Lib.hid (HMV.out q H.out HP.out (fun x y _ h2 h3 => H9.out.2 x y h2 h3 (by omega)))
            clear HMV
            go_wp2
            go_end0
            exact HR.out
        · have g80 : ¬ (80 : Int) < (n : Int) := by omega
          have HR := Lib.hid (HMV.out q H.out HP.out H9.out)
          clear HMV
          go_wp2
          go_end0
          exact HR.out
end
theorem set_self {α : Type} {os : List α} {i : Nat} {x : α} (h : os[i]? = some x) : os.set i x = os := by
  refine List.ext_getElem? fun j => ?_
  rw [List.getElem?_set]
  split
  · next e =>
    subst e
    rw [if_pos (List.getElem?_eq_some_iff.1 h).1, h]
  · rfl
section
variable (l : List I2) (w : World) (bs : List (Nat × Array Value × TypeId)) (os : List Rw) (rs : List (World → Prop)) (i g c' : Nat)
set_option maxRecDepth 100000 in
set_option maxHeartbeats 1000000 in
theorem sortStable_any (gF : Nat) (cb : Array Value) (cf : Nat → Nat → Int) (eg : EG gF) (hcf : ∀ x y, cf x y < 0 ↔ keyOf l x < keyOf l y) (hcmp : CmpOk l w bs os rs i g c' gF cb cf) (hl : l.length ≤ 60) (W : World) (p : List Nat) (h : SR l w bs os rs i g c' W p) (hid : ∀ k, k < l.length → fnOf p k = k) :
    Calls Try.prog 45 #[.slice (some ⟨g, 0, none⟩) l.length c', .func (.func gF) #[] cb] W (RetMG l w bs os rs i g c' p 0 l.length) := by
  have HI := Lib.hid (stable_any l w bs os rs i g c' gF cb cf eg hcf hcmp hl W p h hid)
  clear hcmp h hid
  go_enter Try.func45, Try.ntmps45
  go_wp2_with fail
  refine HI.out.mono ?_
  rintro e w1 ⟨rfl, q, h1, h2, h3, h4⟩
  have H := Lib.hid (And.intro h1 (And.intro h2 (And.intro h3 h4)))
  clear h1 h2 h3 h4
  go_wp2
  go_end0
  exact ⟨rfl, q, H.out⟩
end
theorem sorts_all {l : List I2} (hl : l.length ≤ 60) : SortsUses l := by
  intro w W bs os rs h i g c c' b0 a hi hs h0
  have hio : i < os.length := (List.getElem?_eq_some_iff.1 hi).1
  have hsr : SR l w bs os rs i g c' W (List.range l.length) := by
    refine ⟨List.length_range, fun x hx => List.mem_range.1 hx, hio, ?_⟩
    unfold Srow
    rw [set_self hi]
    exact h
  have hcmp : CmpOk l w bs os rs i g c' 46 #[.pointer (some ⟨b0, 0, none⟩)] (fromCmp l) := fun V q hq x y hx hy =>
    allot1_any V b0 l.length c a l x y hx hy (hq.sy.sx hs) (hq.sy.cell 0 0 h0 rfl)
  have hc := sortStable_any l w bs os rs i g c' 46 #[.pointer (some ⟨b0, 0, none⟩)] (fromCmp l) eg_allot1 (fun x y => cmp_from) hcmp hl W (List.range l.length) hsr (fun k hk => by
    rw [fn_at (by rw [List.length_range]; exact hk), List.getElem_range])
  refine hc.mono ?_
  rintro e w' ⟨rfl, q, h1, h2, h3, h4⟩
  refine ⟨rfl, q, ⟨h2, ?_⟩, h1.sy⟩
  refine List.pairwise_iff_getElem.2 fun x y hx hy hxy => ?_
  have h5 := h4 x y (Nat.zero_le _) hxy (by rw [← h1.len]; exact hy)
  rw [fn_at hx, fn_at hy] at h5
  exact h5
end Go.Proofs.Yteogibpmpppgmaa

/- pay: plain -/
/- gang.Pay -/
import Derived.Test.YtchignmnnbepnaaGreatJ31
import Derived.Test.YtchignmnnbepnaaGreatJ21
namespace Go.Proofs.YtchignmnnbepnaaGreat
open Go.RowKit

/-- are stints right, from a place on? -/
def payOk (n : Nat) (len : Int) : Int → List I3 → Bool
  | _, [] => true
  | at_, x :: r => inB x.1 0 ((n : Int) - 1) && decide (at_ ≤ x.2.1) && decide (x.2.1 < x.2.2) && decide (x.2.2 ≤ len) && payOk n len x.2.2 r
def prAt (pr : List Int) (k : Int) : Int := pr.getD (k - 1).toNat 0
def opPay (pr : List Int) (fr tq : Int) (ops : List Opn) : Int := sumBy (fun o => if inB o.at_ fr (tq - 1) then prAt pr o.kind else 0) ops
/-- the pence of a stint without openings -/
def penny (r d rood : Int) : Int := (2 * r * d + rood) / (2 * rood)
def rateOf (l : List WL) (i : Int) : Int := (l.getD i.toNat (⟨#[]⟩, 0, 0)).2.2
def payS (l : List WL) (rood : Int) (ops : List Opn) (pr : List Int) (x : I3) : Int := penny (rateOf l x.1) (x.2.2 - x.2.1) rood + opPay pr x.2.1 x.2.2 ops
theorem payOk_drop {n : Nat} {len at_ : Int} {st : List I3} {k : Nat} (h : k < st.length) : payOk n len at_ (st.drop k) = (inB st[k].1 0 ((n : Int) - 1) && decide (at_ ≤ st[k].2.1) && decide (st[k].2.1 < st[k].2.2) && decide (st[k].2.2 ≤ len) && payOk n len st[k].2.2 (st.drop (k + 1))) := by
  rw [List.drop_eq_getElem_cons h]
  rfl
theorem sumBy_bdU {α : Type} {f : α → Int} {B : Int} : ∀ {l : List α}, (∀ x ∈ l, 0 ≤ f x ∧ f x ≤ B) → 0 ≤ sumBy f l ∧ sumBy f l ≤ B * l.length
  | [], _ => by simp [sumBy, lsum]
  | x :: l, h => by
    have h1 := h x (List.mem_cons_self ..)
    have h2 := sumBy_bdU (l := l) (f := f) (B := B) (fun y hy => h y (List.mem_cons_of_mem _ hy))
    have e : sumBy f (x :: l) = f x + sumBy f l := by unfold sumBy; rw [List.map_cons, lsum_cons]
    rw [e, List.length_cons, show ((l.length + 1 : Nat) : Int) = (l.length : Int) + 1 by omega, Int.mul_add, Int.mul_one]
    omega
/-- whole and rest, rounded -/
theorem penny_round {p R : Int} (_hp : 0 ≤ p) (hR : 0 < R) : (2 * p + R) / (2 * R) = if R ≤ 2 * (p % R) then p / R + 1 else p / R := by
  have h1 := Int.mul_ediv_add_emod p R
  have h2 := Int.emod_nonneg p (show R ≠ 0 by omega)
  have h3 := Int.emod_lt_of_pos p hR
  generalize p / R = q at *
  generalize p % R = r at *
  have e : 2 * p + R = (2 * r + R) + 2 * R * q := by rw [← h1, Int.mul_add, Int.mul_assoc]; omega
  rw [e, Int.add_mul_ediv_left _ _ (by omega)]
  split
  · have h4 : (2 * r + R) / (2 * R) = (2 * r + R - 2 * R) / (2 * R) + 1 := by
      have := Int.add_mul_ediv_right (2 * r + R - 2 * R) 1 (show 2 * R ≠ 0 by omega)
      rw [Int.one_mul] at this
      rw [← this]
      congr 1
      omega
    have h5 : (2 * r + R - 2 * R) / (2 * R) = 0 := Int.ediv_eq_zero_of_lt (by omega) (by omega)
    omega
  · have : (2 * r + R) / (2 * R) = 0 := Int.ediv_eq_zero_of_lt (by omega) (by omega)
    omega
theorem mul_2e {r d : Int} (h1 : 0 ≤ r ∧ r ≤ 1000000) (h2 : 0 ≤ d ∧ d ≤ 100000) : 0 ≤ r * d ∧ r * d ≤ 100000000000 :=
  ⟨Int.mul_nonneg h1.1 h2.1, Int.mul_le_mul h1.2 h2.2 h2.1 (by omega)⟩
theorem penny_bd {r d R : Int} (h1 : 0 ≤ r ∧ r ≤ 1000000) (h2 : 0 ≤ d ∧ d ≤ 100000) (hR : 1 ≤ R ∧ R ≤ 100000) : 0 ≤ penny r d R ∧ penny r d R ≤ 300000000000 := by
  have h := mul_2e h1 h2
  unfold penny
  rw [Int.mul_assoc]
  refine ⟨Int.ediv_nonneg (by omega) (by omega), ?_⟩
  have := Int.ediv_le_self (2 * R) (a := 2 * (r * d) + R) (by omega)
  omega
theorem wall_ops {x : Wal} {s : Sht} (h : wallB x s = true) : (1 ≤ x.len ∧ x.len ≤ 100000) ∧ (x.on : Int) ≤ 20 ∧ ∀ o ∈ x.ops, (1 ≤ o.kind ∧ o.kind ≤ 4) ∧ 0 ≤ o.at_ ∧ o.at_ < x.len := by
  unfold wallB at h
  simp only [Bool.and_eq_true] at h
  obtain ⟨⟨_, h2⟩, h3⟩ := h
  have e1 := lim_iff.1 (List.all_eq_true.1 h2 (x.len, 1, 100000) (by simp))
  have e2 := lim_iff.1 (List.all_eq_true.1 h2 ((x.on : Int), 0, 20) (by simp))
  refine ⟨e1, e2.2, fun o ho => ?_⟩
  obtain ⟨i, hi, rfl⟩ := List.getElem_of_mem ho
  unfold opensB at h3
  have h4 := List.all_eq_true.1 h3 i (List.mem_range.2 hi)
  rw [List.getElem?_eq_getElem hi] at h4
  simp only [Bool.and_eq_true] at h4
  have h5 := h4.1
  unfold fitsB at h5
  simp only [Bool.and_eq_true] at h5
  have h6 := h5.1.1
  rw [List.all_eq_true] at h6
  have f1 := lim_iff.1 (h6 (x.ops[i].kind, 1, 4) (by simp [openNums]))
  have f2 := lim_iff.1 (h6 (x.ops[i].wide, 1, x.len) (by simp [openNums]))
  have f3 := lim_iff.1 (h6 (x.ops[i].at_, 0, x.len - x.ops[i].wide) (by simp [openNums]))
  dsimp only at f1 f2 f3
  exact ⟨f1, f3.1, by omega⟩
theorem sheet_rood {s : Sht} (h : sheetB s = true) : 1 ≤ s.rood ∧ s.rood ≤ 100000 := by
  unfold sheetB at h
  simp only [Bool.and_eq_true] at h
  have h1 := h.1.1.1.1.2
  unfold numsB at h1
  rw [List.all_eq_true] at h1
  exact lim_iff.1 (h1 _ (by simp [shtNums] : (s.rood, 1, 100000) ∈ shtNums s))
theorem prAt_bd {pr : List Int} (h : ∀ p ∈ pr, 0 ≤ p ∧ p ≤ 1000000) (k : Int) : 0 ≤ prAt pr k ∧ prAt pr k ≤ 1000000 := by
  unfold prAt
  rw [List.getD_eq_getElem?_getD]
  cases e : pr[(k - 1).toNat]? with
  | none => exact ⟨by decide, by decide⟩
  | some p => exact h p (List.mem_of_getElem? e)
theorem opPay_bd {pr : List Int} (h : ∀ p ∈ pr, 0 ≤ p ∧ p ≤ 1000000) {fr tq : Int} {ops : List Opn} (hl : ops.length ≤ 20) : 0 ≤ opPay pr fr tq ops ∧ opPay pr fr tq ops ≤ 20000000 := by
  have := sumBy_bdU (f := fun o : Opn => if inB o.at_ fr (tq - 1) then prAt pr o.kind else 0) (B := 1000000) (l := ops) (fun o _ => by
    have := prAt_bd h o.kind
    split <;> omega)
  unfold opPay
  omega
/-- the law's error -/
def priceB (pr : List Int) : Bool := pr.all fun p => inB p 0 1000000
end Go.Proofs.YtchignmnnbepnaaGreat
namespace Go.Proofs.YtchignmnnbepnaaGreat
open Go.RowKit
section
variable (w : World)
set_option maxHeartbeats 400000 in
theorem pay1_any (x : Int) : Calls Tryz.prog 29 #[.int .i64 x] w (Gives (.bool (!inB x 0 1000000)) w) := by
  go_enter Tryz.func29, Tryz.ntmps29
  go_wp2_with ((with_reducible refine (within_any _ _ _ _).mono ?_); rintro e w1 ⟨rfl, rfl⟩)
  go_ret
  exact ⟨rfl, Below.refl _ _⟩
theorem eg_pay1 : EG 29 := enters_of Tryz.func29 (by kernel_rfl) rfl
theorem errB_false : errB false = 2 := rfl
theorem errB_true : errB true = 0 := rfl
theorem gangErr_no {l : List WL} (h : gangB l = false) : gangErr l = 2 := by unfold gangErr; rw [h]; rfl
theorem gangErr_yes {l : List WL} (h : gangB l = true) : gangErr l = 0 := by unfold gangErr; rw [if_pos h]
theorem price_any (pr : List Int) : (pr.any fun n => !inB n 0 1000000) = !priceB pr := by
  unfold priceB
  induction pr with
  | nil => rfl
  | cons a l ih => rw [List.any_cons, List.all_cons, ih, Bool.not_and]
set_option maxHeartbeats 8000000 in
set_option maxRecDepth 100000 in
theorem gpay_bad (sa wa : Option Addr) (sn sc wn wc : Nat) (S : List Sht) (L : List Wal) (nm : ByteArray) (a1 : Option Addr) (n1 c1 : Nat) (l : List WL) (sv : Value) (p0 p1 p2 p3 : Int) (hS : Shts w sa sn sc S) (hL : Wals w wa wn wc L)
    (hl : Sx 3 w a1 n1 c1 (LW l)) (hn : ∀ x ∈ l, x.1.size ≤ maxLen) (hb : (gangB l && planB S L && priceB [p0, p1, p2, p3]) = false) :
    Calls Tryz.prog 7 #[.agg #[.slice sa sn sc, .slice wa wn wc], .string nm, .slice a1 n1 c1, sv, .agg #[.int .i64 p0, .int .i64 p1, .int .i64 p2, .int .i64 p3]] w (Gives (.tuple #[.slice none 0 0, .int .i64 2]) w) := by
  have HCK := Lib.hid (fun W (hW : Below w.heap.size w W) => check_any W a1 n1 c1 l (hl.below hW) hn)
  have HPC := Lib.hid (fun W (hW : Below w.heap.size w W) => pcheck_any W sa wa sn sc wn wc S L (hS.below hW) (hL.below hW))
  have HX := Lib.hid (fun W bn h0 => containsFunc_int (some ⟨bn, 0, none⟩) 4 4 [p0, p1, p2, p3] 29 #[] _ W h0 eg_pay1 (fun W' _ x _ => pay1_any W' x))
  rw [price_any] at HX
  have HB := Lib.hid hb
  clear hl hn hS hL hb
  go_enter Tryz.func7, Tryz.ntmps7
  go_upto_region 1 with (first | (refine wpList_bx (o := ⟨some 5, _, _, _, _, _⟩) rfl (Sy.enter w) _ _ rfl #[.slice sa sn sc, .slice wa wn wc] rfl ?_; intro b5 V1 h1; have hA := Lib.hid h1; clear h1) | (refine wpList_bx (o := ⟨some 9, _, _, _, _, _⟩) rfl hA.out _ _ rfl #[.int .i64 p0, .int .i64 p1, .int .i64 p2, .int .i64 p3] rfl ?_; intro b9 V2 h2; have hB := Lib.hid h2; clear h2 hA) | fail)
  cases hg : gangB l
  · rw [gangErr_no hg] at HCK
    clear hg HB HX HPC
    go_wp2_with fail
    refine (HCK.out _ hB.out.be).mono ?_
    rintro e w3 ⟨rfl, hb⟩
    have hC := Lib.hid (hB.out.call hb)
    clear hb hB
    go_wp2
    go_ret2
    exact ⟨rfl, hC.out.be⟩
  · rw [gangErr_yes hg] at HCK
    rw [hg] at HB
    clear hg
    go_wp2_with fail
    refine (HCK.out _ hB.out.be).mono ?_
    rintro e w3 ⟨rfl, hb⟩
    have hC := Lib.hid (hB.out.call hb)
    clear hb hB
    have x0 : w3.cell? ⟨b5, 0, none⟩ = some (.slice sa sn sc) := hC.out.cell 0 0 rfl rfl
    have x1 : w3.cell? ⟨b5, 1, none⟩ = some (.slice wa wn wc) := hC.out.cell 0 1 rfl rfl
    cases hp : planB S L
    · rw [hp, errB_false] at HPC
      clear hp HB HX
      go_wp2_with fail
      refine (HPC.out _ hC.out.be).mono ?_
      rintro e w4 ⟨rfl, hb⟩
      have hD := Lib.hid (hC.out.call hb)
      clear hb hC x0 x1
      go_wp2
      go_ret2
      exact ⟨rfl, hD.out.be⟩
    · rw [hp, errB_true] at HPC
      rw [hp] at HB
      have hq : (!priceB [p0, p1, p2, p3]) = true := by have := HB.out; simpa using this
      rw [hq] at HX
      clear hp HB hq
      go_wp2_with fail
      refine (HPC.out _ hC.out.be).mono ?_
      rintro e w4 ⟨rfl, hb⟩
      have hD := Lib.hid (hC.out.call hb)
      clear hb hC x0 x1
      go_wp2_with fail
      refine (HX.out _ b9 ⟨rfl, by omega, by decide, fun _ => ⟨b9, 0, rfl, hD.out.lt 1 rfl, fun k u hk => ?_⟩⟩).mono ?_
      · rw [Nat.zero_add]
        exact hD.out.cell 1 k rfl (by simpa [L1] using hk)
      rintro e w5 ⟨rfl, hb⟩
      have hE := Lib.hid (hD.out.call hb)
      clear hb hD
      go_wp2
      go_ret2
      exact ⟨rfl, hE.out.be⟩
/-- what is found, told by letters -/
def RetFindK (w : World) (x : Wal) (s : Sht) (er : Int) (e : Ending) (w' : World) : Prop := ∃ (oa ha : Option Addr) (oc hc : Nat) (U1 U2 : Value), Hid (U1 = .agg (cWa { x with oa := oa, oc := oc }).toArray) ∧ Hid (U2 = .agg (cS { s with ha := ha, hc := hc }).toArray) ∧ e = .returned (.tuple #[U1, U2, .int .i64 er]) ∧ Hid (Sx 5 w' oa x.on oc (LO x.ops)) ∧ Below w.heap.size w w'
def zWal : Wal := ⟨⟨#[]⟩, ⟨#[]⟩, 0, none, 0, 0, []⟩
def zSht : Sht := ⟨⟨#[]⟩, 0, 0, 0, 0, none, 0, 0, [], 0, 0, 0, 0, 0, 0, 0, 0, 0, 0, 0, 0, 0, 0⟩
theorem pFind_found (sa wa : Option Addr) (sn sc wn wc : Nat) (S : List Sht) (L : List Wal) (nm : ByteArray) (hS : Shts w sa sn sc S) (hL : Wals w wa wn wc L) (hp : planB S L = true) {k : Nat} (hk : k < L.length) (hi : idxB (isW nm) L = k) {s : Sht} (hs : S.find? (isS L[k].sheet) = some s) :
    Calls Tryz.prog 31 #[.agg #[.slice sa sn sc, .slice wa wn wc], .string nm] w (RetFindK w L[k] s 0) := by
  refine (pFind_any w sa wa sn sc wn wc S L nm hS hL).mono ?_
  rintro e w' (⟨h1, _⟩ | ⟨_, h1, _⟩ | ⟨_, k', hk', s', h1, _, h2, x, t, hx, ht, rfl, h3, _, h4⟩)
  · rw [hp] at h1; cases h1
  · omega
  · obtain rfl : k' = k := by omega
    rw [hs] at h2
    cases h2
    have e1 : x.on = L[k'].on := by rw [hx]
    have e2 : x.ops = L[k'].ops := by rw [hx]
    rw [e1, e2] at h3
    exact ⟨x.oa, t.ha, x.oc, t.hc, _, _, Lib.hid (by rw [← hx]), Lib.hid (by rw [← ht]), rfl, Lib.hid h3, h4⟩
theorem pFind_none (sa wa : Option Addr) (sn sc wn wc : Nat) (S : List Sht) (L : List Wal) (nm : ByteArray) (hS : Shts w sa sn sc S) (hL : Wals w wa wn wc L) (hp : planB S L = true) (hi : idxB (isW nm) L = -1) :
    Calls Tryz.prog 31 #[.agg #[.slice sa sn sc, .slice wa wn wc], .string nm] w (RetFindK w zWal zSht 6) := by
  have hf := fun V (h : Below w.heap.size w V) => pfind_any V sa wa sn sc wn wc S L nm (hS.below h) (hL.below h)
  refine (pFind_core w _ nm zWC zC 6 none none 0 0 0 0 [] [] ⟨_, _, rfl⟩ (fun V h => (hf V h).mono ?_) rfl zWC_one rfl rfl zC_one rfl Sx.nil Sx.nil (by omega) (by omega)).mono ?_
  · rintro e w' (⟨h1, _⟩ | ⟨_, _, h2, h3⟩ | ⟨_, k, _, s, h1, _⟩)
    · rw [hp] at h1; cases h1
    · exact ⟨h2, h3⟩
    · omega
  · rintro e w' ⟨a, c, a', c', h1, h2, _, h4⟩
    exact ⟨a, a', c, c', _, _, Lib.hid rfl, Lib.hid rfl, h1, Lib.hid h2, h4⟩
end
section
variable (w : World)
/-- the pay, or the error -/
def RetPays (w : World) (ok : Bool) (xs : List Int) (e : Ending) (w' : World) : Prop := (ok = false ∧ e = .returned (.tuple #[.slice none 0 0, .int .i64 3]) ∧ Below w.heap.size w w') ∨ (ok = true ∧ ∃ a c, e = .returned (.tuple #[.slice a xs.length c, .int .i64 0]) ∧ w'.ownsRow w.heap.size 3 1 (.slice a xs.length c) xs.length (L1 xs) ∧ Below w.heap.size w w')
theorem ownsRow_low {W : World} {B B' : Nat} {e : TypeId} {size n : Nat} {v : Value} {xs : List Value} (h : W.ownsRow B' e size v n xs) (hB : B ≤ B') : W.ownsRow B e size v n xs := by
  refine ⟨h.1, h.2.imp id ?_⟩
  rintro ⟨g, cap, cur, rfl, h0, rest⟩
  exact ⟨g, cap, cur, rfl, Nat.le_trans hB h0, rest⟩
set_option maxHeartbeats 8000000 in
set_option maxRecDepth 100000 in
theorem gpay_name (sv : Value) (sa wa : Option Addr) (sn sc wn wc : Nat) (S : List Sht) (L : List Wal) (nm : ByteArray) (a1 : Option Addr) (n1 c1 : Nat) (l : List WL) (p0 p1 p2 p3 : Int) (hS : Shts w sa sn sc S) (hL : Wals w wa wn wc L) (hl : Sx 3 w a1 n1 c1 (LW l)) (hn : ∀ x ∈ l, x.1.size ≤ maxLen) (hg : gangB l = true) (hp : planB S L = true) (hpr : priceB [p0, p1, p2, p3] = true) (hi : idxB (isW nm) L = -1) :
    Calls Tryz.prog 7 #[.agg #[.slice sa sn sc, .slice wa wn wc], .string nm, .slice a1 n1 c1, sv, .agg #[.int .i64 p0, .int .i64 p1, .int .i64 p2, .int .i64 p3]] w (Gives (.tuple #[.slice none 0 0, .int .i64 6]) w) := by
  have HF := Lib.hid (fun W (hW : Below w.heap.size w W) => pFind_none W sa wa sn sc wn wc S L nm (hS.below hW) (hL.below hW) hp hi)
  have HCK := Lib.hid (fun W (hW : Below w.heap.size w W) => check_any W a1 n1 c1 l (hl.below hW) hn)
  have HPC := Lib.hid (fun W (hW : Below w.heap.size w W) => pcheck_any W sa wa sn sc wn wc S L (hS.below hW) (hL.below hW))
  have HX := Lib.hid (fun W bn h0 => containsFunc_int (some ⟨bn, 0, none⟩) 4 4 [p0, p1, p2, p3] 29 #[] _ W h0 eg_pay1 (fun W' _ x _ => pay1_any W' x))
  have hq : (!priceB [p0, p1, p2, p3]) = false := by rw [hpr]; rfl
  rw [price_any, hq] at HX
  rw [gangErr_yes hg] at HCK
  rw [hp, errB_true] at HPC
  clear hl hn hS hL hg hp hpr hq
  go_enter Tryz.func7, Tryz.ntmps7
  go_upto_region 1 with (first | (refine wpList_bx (o := ⟨some 5, _, _, _, _, _⟩) rfl (Sy.enter w) _ _ rfl #[.slice sa sn sc, .slice wa wn wc] rfl ?_; intro b5 V1 h1; have hA := Lib.hid h1; clear h1) | (refine wpList_bx (o := ⟨some 9, _, _, _, _, _⟩) rfl hA.out _ _ rfl #[.int .i64 p0, .int .i64 p1, .int .i64 p2, .int .i64 p3] rfl ?_; intro b9 V2 h2; have hB := Lib.hid h2; clear h2 hA) | fail)
  go_wp2_with fail
  refine (HCK.out _ hB.out.be).mono ?_
  rintro e w3 ⟨rfl, hb⟩
  have hC := Lib.hid (hB.out.call hb)
  clear hb hB HCK
  have x0 : w3.cell? ⟨b5, 0, none⟩ = some (.slice sa sn sc) := hC.out.cell 0 0 rfl rfl
  have x1 : w3.cell? ⟨b5, 1, none⟩ = some (.slice wa wn wc) := hC.out.cell 0 1 rfl rfl
  go_wp2_with fail
  refine (HPC.out _ hC.out.be).mono ?_
  rintro e w4 ⟨rfl, hb⟩
  have hD := Lib.hid (hC.out.call hb)
  clear hb hC x0 x1 HPC
  go_wp2_with fail
  refine (HX.out _ b9 ⟨rfl, by omega, by decide, fun _ => ⟨b9, 0, rfl, hD.out.lt 1 rfl, fun k u hk => ?_⟩⟩).mono ?_
  · rw [Nat.zero_add]
    exact hD.out.cell 1 k rfl (by simpa [L1] using hk)
  rintro e w5 ⟨rfl, hb⟩
  have hE := Lib.hid (hD.out.call hb)
  clear hb hD HX
  have x0 : w5.cell? ⟨b5, 0, none⟩ = some (.slice sa sn sc) := hE.out.cell 0 0 rfl rfl
  have x1 : w5.cell? ⟨b5, 1, none⟩ = some (.slice wa wn wc) := hE.out.cell 0 1 rfl rfl
  go_wp2_with fail
  refine (HF.out _ hE.out.be).mono ?_
  rintro e w6 ⟨oa, ha, oc, hc, U1, U2, hU1, hU2, rfl, hO, hb⟩
  have hFw := Lib.hid (hE.out.call hb)
  have hF := Lib.hid (Sy.enter w6)
  clear hb hE x0 x1 HF
  go_upto_region 4 with (first | (refine wpList_al (o := ⟨some 12, _, _, _, _, _⟩) rfl hF.out _ rfl zW zero_Wall ?_; intro b12 V7 h7; have hF1 := Lib.hid h7; clear h7 hF) | (refine wpList_al (o := ⟨some 13, _, _, _, _, _⟩) rfl hF1.out _ rfl zS zero_Sheet ?_; intro b13 V8 h8; have hF2 := Lib.hid h8; clear h8 hF1) | (refine wpList_st (o := ⟨none, _, _, _, _, _⟩) rfl hF2.out 0 rfl _ _ _ rfl rfl (cWa { zWal with oa := oa, oc := oc }).toArray hU1.out info_Wall rfl (cWa_one _) ?_; intro V9 h9; have hF3 := Lib.hid h9; clear h9 hF2) | (refine wpList_st (o := ⟨none, _, _, _, _, _⟩) rfl hF3.out 1 rfl _ _ _ rfl rfl (cS { zSht with ha := ha, hc := hc }).toArray hU2.out info_Sheet rfl (cS_one _) ?_; intro V10 h10; have hG := Lib.hid h10; clear h10 hF3) | fail)
  go_wp2
  go_ret2
  exact ⟨rfl, hFw.out.be.trans (hG.out.be.mono hFw.out.be.size)⟩
set_option maxHeartbeats 32000000 in
set_option maxRecDepth 100000 in
theorem gpay_found (sa wa : Option Addr) (sn sc wn wc : Nat) (S : List Sht) (L : List Wal) (nm : ByteArray) (a1 : Option Addr) (n1 c1 : Nat) (l : List WL) (p0 p1 p2 p3 : Int) (hS : Shts w sa sn sc S) (hL : Wals w wa wn wc L) (hl : Sx 3 w a1 n1 c1 (LW l)) (hn : ∀ x ∈ l, x.1.size ≤ maxLen) (hg : gangB l = true) (hp : planB S L = true) (hpr : priceB [p0, p1, p2, p3] = true) {k : Nat} (hk : k < L.length) (hi : idxB (isW nm) L = k) {s : Sht} (hs : S.find? (isS L[k].sheet) = some s) (a2 : Option Addr) (n2 c2 : Nat) (st : List I3) (hst : Sx 3 w a2 n2 c2 (L3 st)) (hl2 : st.length ≤ 1000) :
    Calls Tryz.prog 7 #[.agg #[.slice sa sn sc, .slice wa wn wc], .string nm, .slice a1 n1 c1, .slice a2 n2 c2, .agg #[.int .i64 p0, .int .i64 p1, .int .i64 p2, .int .i64 p3]] w (RetPays w (payOk l.length L[k].len 0 st) (st.map (payS l s.rood L[k].ops [p0, p1, p2, p3]))) := by
  have HF := Lib.hid (fun W (hW : Below w.heap.size w W) => pFind_found W sa wa sn sc wn wc S L nm (hS.below hW) (hL.below hW) hp hk hi hs)
  have hwb : (1 ≤ L[k].len ∧ L[k].len ≤ 100000) ∧ (L[k].on : Int) ≤ 20 ∧ ∀ o ∈ L[k].ops, (1 ≤ o.kind ∧ o.kind ≤ 4) ∧ 0 ≤ o.at_ ∧ o.at_ < L[k].len := by
    obtain ⟨s', _, h2, h3⟩ := plan_wall hk hp
    rw [hs] at h2
    cases h2
    exact wall_ops h3
  have hrd := sheet_rood (plan_sheet hp (List.mem_of_find?_eq_some hs))
  have HRT := Lib.hid (fun j (hj : j < l.length) => (gangB_row hg l[j] (List.getElem_mem hj)).2.1)
  have hgl := gangB_len hg
  obtain ⟨hlen, hon, HOP0⟩ := hwb
  have HOP := Lib.hid HOP0
  have HST := Lib.hid hst
  have HL := Lib.hid hl
  have HPB := Lib.hid (show ∀ p ∈ [p0, p1, p2, p3], 0 ≤ p ∧ p ≤ 1000000 from fun p hp => inB_iff.1 (List.all_eq_true.1 hpr p hp))
  obtain rfl := hst.n3
  obtain rfl := hl.nW
  have hcap := hst.cap
  unfold maxLen at hcap
  clear hs hi hst HOP0
  generalize L[k] = x at *
  obtain ⟨ok, hok⟩ : ∃ ok, payOk l.length x.len 0 st = ok := ⟨_, rfl⟩
  rw [hok]
  have HOKQ := Lib.hid hok
  have HFV := Lib.hid (show ∀ z, payS l s.rood x.ops [p0, p1, p2, p3] z = penny (rateOf l z.1) (z.2.2 - z.2.1) s.rood + opPay [p0, p1, p2, p3] z.2.1 z.2.2 x.ops from fun z => rfl)
  generalize payS l s.rood x.ops [p0, p1, p2, p3] = f at *
  clear hok
  have HCK := Lib.hid (fun W (hW : Below w.heap.size w W) => check_any W a1 l.length c1 l (hl.below hW) hn)
  have HPC := Lib.hid (fun W (hW : Below w.heap.size w W) => pcheck_any W sa wa sn sc wn wc S L (hS.below hW) (hL.below hW))
  have HX := Lib.hid (fun W bn h0 => containsFunc_int (some ⟨bn, 0, none⟩) 4 4 [p0, p1, p2, p3] 29 #[] _ W h0 eg_pay1 (fun W' _ x _ => pay1_any W' x))
  have hq : (!priceB [p0, p1, p2, p3]) = false := by rw [hpr]; rfl
  rw [price_any, hq] at HX
  rw [gangErr_yes hg] at HCK
  rw [hp, errB_true] at HPC
  clear hl hn hS hL hg hp hpr hq
  go_enter Tryz.func7, Tryz.ntmps7
  go_upto_region 1 with (first | (refine wpList_bx (o := ⟨some 5, _, _, _, _, _⟩) rfl (Sy.enter w) _ _ rfl #[.slice sa sn sc, .slice wa wn wc] rfl ?_; intro b5 V1 h1; have hA := Lib.hid h1; clear h1) | (refine wpList_bx (o := ⟨some 9, _, _, _, _, _⟩) rfl hA.out _ _ rfl #[.int .i64 p0, .int .i64 p1, .int .i64 p2, .int .i64 p3] rfl ?_; intro b9 V2 h2; have hB := Lib.hid h2; clear h2 hA) | fail)
  go_wp2_with fail
  refine (HCK.out _ hB.out.be).mono ?_
  rintro e w3 ⟨rfl, hb⟩
  have hC := Lib.hid (hB.out.call hb)
  clear hb hB HCK
  have x0 : w3.cell? ⟨b5, 0, none⟩ = some (.slice sa sn sc) := hC.out.cell 0 0 rfl rfl
  have x1 : w3.cell? ⟨b5, 1, none⟩ = some (.slice wa wn wc) := hC.out.cell 0 1 rfl rfl
  go_wp2_with fail
  refine (HPC.out _ hC.out.be).mono ?_
  rintro e w4 ⟨rfl, hb⟩
  have hD := Lib.hid (hC.out.call hb)
  clear hb hC x0 x1 HPC
  go_wp2_with fail
  refine (HX.out _ b9 ⟨rfl, by omega, by decide, fun _ => ⟨b9, 0, rfl, hD.out.lt 1 rfl, fun k u hk => ?_⟩⟩).mono ?_
  · rw [Nat.zero_add]
    exact hD.out.cell 1 k rfl (by simpa [L1] using hk)
  rintro e w5 ⟨rfl, hb⟩
  have hE := Lib.hid (hD.out.call hb)
  clear hb hD HX
  have x0 : w5.cell? ⟨b5, 0, none⟩ = some (.slice sa sn sc) := hE.out.cell 0 0 rfl rfl
  have x1 : w5.cell? ⟨b5, 1, none⟩ = some (.slice wa wn wc) := hE.out.cell 0 1 rfl rfl
  go_wp2_with fail
  refine (HF.out _ hE.out.be).mono ?_
  rintro e w6 ⟨oa, ha, oc, hc, U1, U2, hU1, hU2, rfl, hO, hb⟩
  have hFw := Lib.hid (hE.out.call hb)
  have HQ := Lib.hid (show ∀ V, Below w6.heap.size w6 V → V.cell? ⟨b9, 0, none⟩ = some (.int .i64 p0) ∧ V.cell? ⟨b9, 1, none⟩ = some (.int .i64 p1) ∧ V.cell? ⟨b9, 2, none⟩ = some (.int .i64 p2) ∧ V.cell? ⟨b9, 3, none⟩ = some (.int .i64 p3) from fun V h =>
    ⟨(h.cell (p := ⟨b9, 0, none⟩) (hFw.out.lt 1 rfl)).trans (hFw.out.cell 1 0 rfl rfl), (h.cell (p := ⟨b9, 1, none⟩) (hFw.out.lt 1 rfl)).trans (hFw.out.cell 1 1 rfl rfl), (h.cell (p := ⟨b9, 2, none⟩) (hFw.out.lt 1 rfl)).trans (hFw.out.cell 1 2 rfl rfl), (h.cell (p := ⟨b9, 3, none⟩) (hFw.out.lt 1 rfl)).trans (hFw.out.cell 1 3 rfl rfl)⟩)
  have hF := Lib.hid (Sy.enter w6)
  clear hb hE x0 x1 HF
  go_upto_region 4 with (first | (refine wpList_al (o := ⟨some 12, _, _, _, _, _⟩) rfl hF.out _ rfl zW zero_Wall ?_; intro b12 V7 h7; have hF1 := Lib.hid h7; clear h7 hF) | (refine wpList_al (o := ⟨some 13, _, _, _, _, _⟩) rfl hF1.out _ rfl zS zero_Sheet ?_; intro b13 V8 h8; have hF2 := Lib.hid h8; clear h8 hF1) | (refine wpList_st (o := ⟨none, _, _, _, _, _⟩) rfl hF2.out 0 rfl _ _ _ rfl rfl (cWa { x with oa := oa, oc := oc }).toArray hU1.out info_Wall rfl (cWa_one _) ?_; intro V9 h9; have hF3 := Lib.hid h9; clear h9 hF2) | (refine wpList_st (o := ⟨none, _, _, _, _, _⟩) rfl hF3.out 1 rfl _ _ _ rfl rfl (cS { s with ha := ha, hc := hc }).toArray hU2.out info_Sheet rfl (cS_one _) ?_; intro V10 h10; have hG := Lib.hid h10; clear h10 hF3) | fail)
  have HW := Lib.hid hFw.out.be
  have HR := Lib.hid (fun V (h : Below w6.heap.size w6 V) => (HL.out.below HW.out).below h)
  have HT := Lib.hid (fun V (h : Below w6.heap.size w6 V) => (HST.out.below HW.out).below h)
  have hxn := hO.out.nO
  have HO := Lib.hid (fun V (h : Below w6.heap.size w6 V) => hO.out.below h)
  clear hFw hO hU1 hU2
  rw [hxn] at HO hon
  obtain ⟨A12, hA12⟩ : ∃ A, (cWa { x with oa := oa, oc := oc }).toArray = A := ⟨_, rfl⟩
  have K2 := Lib.hid (show A12[2]? = some (.int .i64 x.len) by rw [← hA12]; rfl)
  have K3 := Lib.hid (show A12[3]? = some (.slice oa x.ops.length oc) by rw [← hA12, ← hxn]; rfl)
  obtain ⟨A13, hA13⟩ : ∃ A, (cS { s with ha := ha, hc := hc }).toArray = A := ⟨_, rfl⟩
  have K4 := Lib.hid (show A13[19]? = some (.int .i64 s.rood) by rw [← hA13]; rfl)
  rw [hA12, hA13] at hG
  clear hA12 hA13
  have hC := Lib.hid (hG.out.onil 3 1)
  clear hG
  go_wp2
  go_loopw [46, 16, 15] (fun iv av ov wr => ∃ (k : Nat) (y : Int) (a : Option Addr) (c : Nat), k ≤ st.length ∧ iv = .int .i64 k ∧ av = .int .i64 y ∧ ov = .slice a k c ∧ 0 ≤ y ∧ y ≤ 100000 ∧ Hid (payOk l.length x.len y (st.drop k) = ok) ∧ Hid (Sy w6 wr [(b12, A12, 91), (b13, A13, 92)] [⟨.slice a k c, 3, 1, k, L1 ((st.take k).map f)⟩] [])) (fun iv _ _ _ => st.length - (intOf iv).toNat)
  case atStart => exact ⟨0, 0, none, 0, Nat.zero_le _, rfl, rfl, rfl, by omega, by omega, HOKQ, hC⟩
  case round =>
    clear hC
    obtain ⟨k, y, a, c, hk, rfl, rfl, rfl, hy0, hy1, HD, hC⟩ := hrel
    by_cases hlt : k < st.length
    · obtain ⟨g2, o2, rfl⟩ := HST.out.addr (by omega)
      obtain ⟨x0, x1, x2⟩ := (HT.out _ hC.out.be).at3 hlt
      have hpo := payOk_drop (n := l.length) (len := x.len) (at_ := y) hlt
      rw [HD.out] at hpo
      have HPO := Lib.hid hpo
      have HTT := Lib.hid (show L1 ((st.take (k + 1)).map f) = L1 ((st.take k).map f) ++ [.int .i64 (f st[k])] by rw [List.take_succ_eq_append_getElem hlt, List.map_append, L1_append]; rfl)
      rw [HFV.out] at HTT
      have i0 : (0 : Int) ≤ (k : Int) := by omega
      have i1 : (k : Int) < (st.length : Int) := by omega
      clear hpo HD
      obtain ⟨ok2, hok2⟩ : ∃ ok2, payOk l.length x.len st[k].2.2 (st.drop (k + 1)) = ok2 := ⟨_, rfl⟩
      have HO2 := Lib.hid hok2
      rw [hok2] at HPO
      clear hok2
      obtain ⟨u0, hu0⟩ : ∃ u0, st[k].1 = u0 := ⟨_, rfl⟩
      obtain ⟨u1, hu1⟩ : ∃ u1, st[k].2.1 = u1 := ⟨_, rfl⟩
      obtain ⟨u2, hu2⟩ : ∃ u2, st[k].2.2 = u2 := ⟨_, rfl⟩
      rw [hu0, hu1, hu2] at HPO HTT
      rw [hu0] at x0
      rw [hu1] at x1
      rw [hu2] at x2 HO2
      clear hu0 hu1 hu2
      have hA := Lib.hid (hC.out.al wr.heap.size #[.int .i64 u0, .int .i64 u1, .int .i64 u2] 59 rfl)
      go_upto_region 11 with fail
      obtain ⟨bS, hbS⟩ : ∃ bS, wr.heap.size = bS := ⟨_, rfl⟩
      rw [hbS] at hA ⊢
      refine wp_geny hA.out ?_
      intro W hc
      have hS : Hid (Sy w6 W [(b12, A12, 91), (b13, A13, 92), (bS, #[.int .i64 u0, .int .i64 u1, .int .i64 u2], 59)] [⟨.slice a k c, 3, 1, k, L1 ((st.take k).map f)⟩] []) := Lib.hid hc
      clear hc hA hC x0 x1 x2 hbS
      have s0 : W.cell? ⟨bS, 0, none⟩ = some (.int .i64 u0) := hS.out.cell 2 0 rfl rfl
      have s1 : W.cell? ⟨bS, 1, none⟩ = some (.int .i64 u1) := hS.out.cell 2 1 rfl rfl
      have s2 : W.cell? ⟨bS, 2, none⟩ = some (.int .i64 u2) := hS.out.cell 2 2 rfl rfl
      have k2 : W.cell? ⟨b12, 2, none⟩ = some (.int .i64 x.len) := hS.out.cell 0 2 rfl K2.out
      have wl : IntKind.i64.wrap ((l.length : Int) - 1) = (l.length : Int) - 1 := IntWalk.i64_in _ (by omega)
      cases e1 : inB u0 0 ((l.length : Int) - 1)
      · rw [e1] at HPO
        have HNO := Lib.hid (show ok = false by rw [HPO.out]; rfl)
        clear HPO HTT
        go_wp2_with ((with_reducible refine (within_any _ _ _ _).mono ?_); rintro e w1 ⟨rfl, rfl⟩)
        go_ret2
        exact .inl ⟨HNO.out, rfl, HW.out.trans (hS.out.be.mono HW.out.size)⟩
      rw [e1] at HPO
      by_cases e2 : u1 < y
      · have d2 := decide_eq_false (show ¬ y ≤ u1 by omega)
        rw [d2] at HPO
        clear d2
        have HNO := Lib.hid (show ok = false by rw [HPO.out]; rfl)
        clear HPO HTT
        go_wp2_with ((with_reducible refine (within_any _ _ _ _).mono ?_); rintro e w1 ⟨rfl, rfl⟩)
        go_ret2
        exact .inl ⟨HNO.out, rfl, HW.out.trans (hS.out.be.mono HW.out.size)⟩
      have d2 := decide_eq_true (show y ≤ u1 by omega)
      rw [d2] at HPO
      clear d2
      by_cases e3 : u2 ≤ u1
      · have d3 := decide_eq_false (show ¬ u1 < u2 by omega)
        rw [d3] at HPO
        clear d3
        have HNO := Lib.hid (show ok = false by rw [HPO.out]; rfl)
        clear HPO HTT
        go_wp2_with ((with_reducible refine (within_any _ _ _ _).mono ?_); rintro e w1 ⟨rfl, rfl⟩)
        go_ret2
        exact .inl ⟨HNO.out, rfl, HW.out.trans (hS.out.be.mono HW.out.size)⟩
      have d3 := decide_eq_true (show u1 < u2 by omega)
      rw [d3] at HPO
      clear d3
      by_cases e4 : x.len < u2
      · have d4 := decide_eq_false (show ¬ u2 ≤ x.len by omega)
        rw [d4] at HPO
        clear d4
        have HNO := Lib.hid (show ok = false by rw [HPO.out]; rfl)
        clear HPO HTT
        go_wp2_with ((with_reducible refine (within_any _ _ _ _).mono ?_); rintro e w1 ⟨rfl, rfl⟩)
        go_ret2
        exact .inl ⟨HNO.out, rfl, HW.out.trans (hS.out.be.mono HW.out.size)⟩
      have d4 := decide_eq_true (show u2 ≤ x.len by omega)
      rw [d4] at HPO
      clear d4
      have hin := inB_iff.1 e1
      obtain ⟨j, rfl⟩ : ∃ j : Nat, u0 = (j : Int) := ⟨u0.toNat, by omega⟩
      have hj : j < l.length := by omega
      obtain ⟨ga, oa1, rfl⟩ := HL.out.addr (by omega)
      obtain ⟨-, -, r2⟩ := (HR.out _ hS.out.be).atW hj
      have hr := HRT.out j hj
      have hra : rateOf l (j : Int) = l[j].2.2 := by unfold rateOf; rw [Int.toNat_natCast, List.getD_eq_getElem?_getD, List.getElem?_eq_getElem hj]; rfl
      rw [hra] at HTT
      clear hra
      generalize l[j].2.2 = r at *
      have hP := mul_2e hr (show 0 ≤ u2 - u1 ∧ u2 - u1 ≤ 100000 by omega)
      have hq := penny_bd hr (show 0 ≤ u2 - u1 ∧ u2 - u1 ≤ 100000 by omega) hrd
      have HQ2 := Lib.hid (show (2 * r * (u2 - u1) + s.rood).tdiv (2 * s.rood) = penny r (u2 - u1) s.rood from by
        rw [Int.tdiv_eq_ediv_of_nonneg (by rw [Int.mul_assoc]; omega)]; rfl)
      have z1 : IntKind.i64.wrap (2 * r) = 2 * r := IntWalk.i64_in _ (by omega)
      have z2 : IntKind.i64.wrap (u2 - u1) = u2 - u1 := IntWalk.i64_in _ (by omega)
      have z3 : IntKind.i64.wrap (2 * r * (u2 - u1)) = 2 * r * (u2 - u1) := IntWalk.i64_in _ (by rw [Int.mul_assoc]; omega)
      have z4 : IntKind.i64.wrap (2 * r * (u2 - u1) + s.rood) = 2 * r * (u2 - u1) + s.rood := IntWalk.i64_in _ (by rw [Int.mul_assoc]; omega)
      have z5 : IntKind.i64.wrap (2 * s.rood) = 2 * s.rood := IntWalk.i64_in _ (by omega)
      have n5 : ¬ 2 * s.rood = 0 := by omega
      have eq2 := HQ2.out
      generalize penny r (u2 - u1) s.rood = q at *
      have w7 : IntKind.i64.wrap q = q := IntWalk.i64_in _ (by omega)
      have k4 : W.cell? ⟨b13, 19, none⟩ = some (.int .i64 s.rood) := hS.out.cell 1 19 rfl K4.out
      have k3 : W.cell? ⟨b12, 3, none⟩ = some (.slice oa x.ops.length oc) := hS.out.cell 0 3 rfl K3.out
      go_upto_region 14 with ((with_reducible refine (within_any _ _ _ _).mono ?_); rintro e w1 ⟨rfl, rfl⟩)
      go_quiet (fail)
      have hS1 := Lib.hid (hS.out.call (below_dN (Below.refl _ _) nq))
      clear s0 s1 s2 k2 k3 k4 r2 eq2 z1 z2 z3 z4 z5 n5
      go_upto_region 15 with fail
      refine wp_geny hS1.out ?_
      intro W2 hc
      have hS2 : Hid (Sy w6 W2 [(b12, A12, 91), (b13, A13, 92), (bS, #[.int .i64 (j : Int), .int .i64 u1, .int .i64 u2], 59)] [⟨.slice a k c, 3, 1, k, L1 ((st.take k).map f)⟩] []) := Lib.hid hc
      clear hc hS1 hS
      have k3 : W2.cell? ⟨b12, 3, none⟩ = some (.slice oa x.ops.length oc) := hS2.out.cell 0 3 rfl K3.out
      go_wp2
      go_loopw [102, 19] (fun iv pv wr2 => ∃ m : Nat, m ≤ x.ops.length ∧ iv = .int .i64 m ∧ pv = .int .i64 (q + opPay [p0, p1, p2, p3] u1 u2 (x.ops.take m)) ∧ Hid (Sy w6 wr2 [(b12, A12, 91), (b13, A13, 92), (bS, #[.int .i64 (j : Int), .int .i64 u1, .int .i64 u2], 59)] [⟨.slice a k c, 3, 1, k, L1 ((st.take k).map f)⟩] [])) (fun iv _ _ => x.ops.length - (intOf iv).toNat)
      case atStart => exact ⟨0, Nat.zero_le _, rfl, by rw [List.take_zero]; show Value.int .i64 q = Value.int .i64 (q + lsum []); rw [lsum_nil, Int.add_zero], hS2⟩
      case round =>
        clear hS2 k3
        obtain ⟨m, hm, rfl, rfl, hE⟩ := hrel
        by_cases hml : m < x.ops.length
        · obtain ⟨g5, o5, rfl⟩ := (HO.out w6 (Below.refl _ _)).addr (by omega)
          obtain ⟨y0, y1, y2, y3, y4⟩ := (HO.out _ hE.out.be).atO hml
          have hop := HOP.out x.ops[m] (List.getElem_mem hml)
          have HTK := Lib.hid (show opPay [p0, p1, p2, p3] u1 u2 (x.ops.take (m + 1)) = opPay [p0, p1, p2, p3] u1 u2 (x.ops.take m) + (if inB x.ops[m].at_ u1 (u2 - 1) = true then prAt [p0, p1, p2, p3] x.ops[m].kind else 0) from by unfold opPay; exact sumBy_take _ _ m hml)
          have hbd := opPay_bd HPB.out (fr := u1) (tq := u2) (ops := x.ops.take m) (by rw [List.length_take]; omega)
          generalize opPay [p0, p1, p2, p3] u1 u2 (x.ops.take m) = acc at *
          generalize x.ops[m] = o at *
          have i2 : (0 : Int) ≤ (m : Int) := by omega
          have i3 : (m : Int) < (x.ops.length : Int) := by omega
          have hA2 := Lib.hid (hE.out.al wr.heap.size #[.int .u8 o.kind, .int .i64 o.at_, .int .i64 o.wide, .int .i64 o.fro, .int .i64 o.high] 95 rfl)
          go_upto_region 18 with fail
          obtain ⟨bO, hbO⟩ : ∃ bO, wr.heap.size = bO := ⟨_, rfl⟩
          rw [hbO] at hA2 ⊢
          refine wp_geny hA2.out ?_
          intro W3 hc
          have hG : Hid (Sy w6 W3 [(b12, A12, 91), (b13, A13, 92), (bS, #[.int .i64 (j : Int), .int .i64 u1, .int .i64 u2], 59), (bO, #[.int .u8 o.kind, .int .i64 o.at_, .int .i64 o.wide, .int .i64 o.fro, .int .i64 o.high], 95)] [⟨.slice a k c, 3, 1, k, L1 ((st.take k).map f)⟩] []) := Lib.hid hc
          clear hc hA2 hE y0 y1 y2 y3 y4 hbO
          have o0 : W3.cell? ⟨bO, 0, none⟩ = some (.int .u8 o.kind) := hG.out.cell 3 0 rfl rfl
          have o1 : W3.cell? ⟨bO, 1, none⟩ = some (.int .i64 o.at_) := hG.out.cell 3 1 rfl rfl
          have s1 : W3.cell? ⟨bS, 1, none⟩ = some (.int .i64 u1) := hG.out.cell 2 1 rfl rfl
          have s2 : W3.cell? ⟨bS, 2, none⟩ = some (.int .i64 u2) := hG.out.cell 2 2 rfl rfl
          have w8 : IntKind.i64.wrap (u2 - 1) = u2 - 1 := IntWalk.i64_in _ (by omega)
          cases e5 : inB o.at_ u1 (u2 - 1)
          · rw [e5] at HTK
            go_wp2_with ((with_reducible refine (within_any _ _ _ _).mono ?_); rintro e w1 ⟨rfl, rfl⟩)
            go_roundw
            case rel => exact ⟨m + 1, by omega, by go_num, by rw [HTK.out, if_neg (by decide), Int.add_zero], Lib.hid (hG.out.thin (List.sublist_append_left [_, _, _] _) (List.Sublist.refl _))⟩
            case measure => simp [intOf]; omega
          · rw [e5] at HTK
            have hpa := prAt_bd HPB.out o.kind
            have hk : o.kind = 1 ∨ o.kind = 2 ∨ o.kind = 3 ∨ o.kind = 4 := by omega
            rcases hk with hk | hk | hk | hk
            · have ek : prAt [p0, p1, p2, p3] 1 = p0 := rfl
              rw [hk] at o0 HTK hpa
              rw [ek] at HTK hpa
              have v0 := (HQ.out _ hG.out.be).1
              have w9 : IntKind.i64.wrap (q + acc + p0) = q + acc + p0 := IntWalk.i64_in _ (by omega)
              go_wp2_with ((with_reducible refine (within_any _ _ _ _).mono ?_); rintro e w1 ⟨rfl, rfl⟩)
              go_roundw
              case rel => exact ⟨m + 1, by omega, by go_num, by rw [HTK.out, if_pos trivial, Int.add_assoc], Lib.hid (hG.out.thin (List.sublist_append_left [_, _, _] _) (List.Sublist.refl _))⟩
              case measure => simp [intOf]; omega
            · have ek : prAt [p0, p1, p2, p3] 2 = p1 := rfl
              rw [hk] at o0 HTK hpa
              rw [ek] at HTK hpa
              have v1 := (HQ.out _ hG.out.be).2.1
              have w9 : IntKind.i64.wrap (q + acc + p1) = q + acc + p1 := IntWalk.i64_in _ (by omega)
              go_wp2_with ((with_reducible refine (within_any _ _ _ _).mono ?_); rintro e w1 ⟨rfl, rfl⟩)
              go_roundw
              case rel => exact ⟨m + 1, by omega, by go_num, by rw [HTK.out, if_pos trivial, Int.add_assoc], Lib.hid (hG.out.thin (List.sublist_append_left [_, _, _] _) (List.Sublist.refl _))⟩
              case measure => simp [intOf]; omega
            · have ek : prAt [p0, p1, p2, p3] 3 = p2 := rfl
              rw [hk] at o0 HTK hpa
              rw [ek] at HTK hpa
              have v2 := (HQ.out _ hG.out.be).2.2.1
              have w9 : IntKind.i64.wrap (q + acc + p2) = q + acc + p2 := IntWalk.i64_in _ (by omega)
              go_wp2_with ((with_reducible refine (within_any _ _ _ _).mono ?_); rintro e w1 ⟨rfl, rfl⟩)
              go_roundw
              case rel => exact ⟨m + 1, by omega, by go_num, by rw [HTK.out, if_pos trivial, Int.add_assoc], Lib.hid (hG.out.thin (List.sublist_append_left [_, _, _] _) (List.Sublist.refl _))⟩
              case measure => simp [intOf]; omega
            · have ek : prAt [p0, p1, p2, p3] 4 = p3 := rfl
              rw [hk] at o0 HTK hpa
              rw [ek] at HTK hpa
              have v3 := (HQ.out _ hG.out.be).2.2.2
              have w9 : IntKind.i64.wrap (q + acc + p3) = q + acc + p3 := IntWalk.i64_in _ (by omega)
              go_wp2_with ((with_reducible refine (within_any _ _ _ _).mono ?_); rintro e w1 ⟨rfl, rfl⟩)
              go_roundw
              case rel => exact ⟨m + 1, by omega, by go_num, by rw [HTK.out, if_pos trivial, Int.add_assoc], Lib.hid (hG.out.thin (List.sublist_append_left [_, _, _] _) (List.Sublist.refl _))⟩
              case measure => simp [intOf]; omega
        · obtain rfl : m = x.ops.length := by omega
          have HPA := Lib.hid (show opPay [p0, p1, p2, p3] u1 u2 (x.ops.take x.ops.length) = opPay [p0, p1, p2, p3] u1 u2 x.ops from by rw [List.take_length])
          rw [HPA.out]
          obtain ⟨pay, hpay⟩ : ∃ pay, q + opPay [p0, p1, p2, p3] u1 u2 x.ops = pay := ⟨_, rfl⟩
          rw [hpay] at HTT ⊢
          have HF2 := Lib.hid (show Hid (payOk l.length x.len u2 (st.drop (k + 1)) = ok) from Lib.hid (HO2.out.trans (by rw [HPO.out]; simp)))
          clear HPO hpay
          go_wp2_with (refine wpList_append_sy (o := ⟨some 125, _, _, _, _, _⟩) rfl (hE.out.onew wr.heap.size #[.int .i64 pay] 3 1 1 rfl (by omega) rfl) 0 1 rfl rfl _ _ _ rfl und_int info_int rfl (by omega) rfl rfl (by intro u hu; simp at hu; rcases hu with rfl; rfl) (by omega) (by omega) ?_; intro a3 c3 V3 hV3; have hJ := Lib.hid hV3; clear hV3 hE)
          have hK := Lib.hid (hJ.out.thin (bs' := [(b12, A12, 91), (b13, A13, 92)]) (List.sublist_append_left [_, _] _) (List.Sublist.cons_cons _ (List.nil_sublist _)))
          clear hJ
          go_roundw
          case rel => exact ⟨k + 1, u2, a3, c3, by omega, by go_num, rfl, rfl, by omega, by omega, HF2.out, by rw [HTT.out]; exact hK⟩
          case measure => simp [intOf]; omega
    · obtain rfl : k = st.length := by omega
      have HOK2 := Lib.hid (show ok = true from by have := HD.out; rw [List.drop_length] at this; exact this.symm.trans rfl)
      have HLN := Lib.hid (show (st.map f).length = st.length from List.length_map _)
      have HTS := Lib.hid (show L1 ((st.take st.length).map f) = L1 (st.map f) from by rw [List.take_length])
      go_wp2
      go_ret2
      refine .inr ⟨HOK2.out, a, c, ?_, ?_, HW.out.trans (hC.out.be.mono HW.out.size)⟩
      · first | rfl | (rw [HLN.out]; first | done | rfl)
      rw [HLN.out]
      have := ownsRow_low (hC.out.orow 0 rfl) HW.out.size
      rwa [HTS.out] at this
end
end Go.Proofs.YtchignmnnbepnaaGreat

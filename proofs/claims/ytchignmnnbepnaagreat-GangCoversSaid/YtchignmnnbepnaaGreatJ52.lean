/- GangCovers, plain: stints that cover a wall -/
/- planOf, ref0: a plan of one wall -/
import Derived.Test.YtchignmnnbepnaaGreatJ34
import Derived.Test.YtchignmnnbepnaaGreatJ28
namespace Go.Proofs.YtchignmnnbepnaaGreat
open Go.RowKit
/-- the stints that cuts make -/
def cutSt (len : Int) : Int → List Int → List I3
  | at_, [] => [(0, at_, len)]
  | at_, c :: r => if at_ < c ∧ c < len then (0, at_, c) :: cutSt len c r else cutSt len at_ r
theorem cutSt_pos (len : Int) : ∀ (cs : List Int) (at_ : Int), 1 ≤ (cutSt len at_ cs).length ∧ (cutSt len at_ cs).length ≤ cs.length + 1
  | [], _ => ⟨by simp [cutSt], by simp [cutSt]⟩
  | c :: r, at_ => by
    unfold cutSt
    split
    · have := cutSt_pos len r c
      simp only [List.length_cons]
      omega
    · have := cutSt_pos len r at_
      simp only [List.length_cons]
      omega
theorem cutSt_zero (len : Int) : ∀ (cs : List Int) (at_ : Int), ∀ x ∈ cutSt len at_ cs, x.1 = 0
  | [], _, x, h => by simp [cutSt] at h; rw [h]
  | c :: r, at_, x, h => by
    unfold cutSt at h
    split at h
    · rcases List.mem_cons.1 h with rfl | h
      · rfl
      · exact cutSt_zero len r c x h
    · exact cutSt_zero len r at_ x h
theorem cutSt_ok (len : Int) : ∀ (cs : List Int) (at_ : Int), at_ < len → payOk 1 len at_ (cutSt len at_ cs) = true
  | [], at_, h => by
    simp only [cutSt, payOk, Bool.and_true, Bool.and_eq_true, decide_eq_true_eq]
    exact ⟨⟨⟨by decide, Int.le_refl _⟩, h⟩, Int.le_refl _⟩
  | c :: r, at_, h => by
    unfold cutSt
    split
    · rename_i hc
      simp only [payOk, Bool.and_eq_true, decide_eq_true_eq]
      exact ⟨⟨⟨⟨by decide, Int.le_refl _⟩, hc.1⟩, by omega⟩, cutSt_ok len r c hc.2⟩
    · exact cutSt_ok len r at_ h
theorem cutSt_in (len : Int) : ∀ (cs : List Int) (at_ : Int), 0 ≤ at_ → at_ < len → ∀ x ∈ cutSt len at_ cs, 0 ≤ x.2.2 - x.2.1 ∧ x.2.2 - x.2.1 ≤ len
  | [], at_, h0, h, x, hx => by simp [cutSt] at hx; rw [hx]; dsimp only; omega
  | c :: r, at_, h0, h, x, hx => by
    unfold cutSt at hx
    split at hx
    · rename_i hc
      rcases List.mem_cons.1 hx with rfl | hx
      · dsimp only; omega
      · exact cutSt_in len r c (by omega) hc.2 x hx
    · exact cutSt_in len r at_ h0 h x hx
theorem penny_near {r d R : Int} (hR : 0 < R) : -R < 2 * R * penny r d R - 2 * (r * d) ∧ 2 * R * penny r d R - 2 * (r * d) ≤ R := by
  unfold penny
  have h1 := Int.mul_ediv_add_emod (2 * r * d + R) (2 * R)
  have h2 := Int.emod_nonneg (2 * r * d + R) (show 2 * R ≠ 0 by omega)
  have h3 := Int.emod_lt_of_pos (2 * r * d + R) (show 0 < 2 * R by omega)
  generalize (2 * r * d + R) / (2 * R) = q at *
  generalize (2 * r * d + R) % (2 * R) = m at *
  rw [Int.mul_assoc 2 r d] at h1
  generalize r * d = P at *
  generalize 2 * R * q = Z at *
  omega
theorem covers_penny (r : Int) {R : Int} (hR : 0 < R) (len : Int) : ∀ (cs : List Int) (at_ : Int),
    -(((cutSt len at_ cs).length : Int) * R) < 2 * R * lsum ((cutSt len at_ cs).map (fun x => penny r (x.2.2 - x.2.1) R)) - 2 * (r * (len - at_)) ∧
    2 * R * lsum ((cutSt len at_ cs).map (fun x => penny r (x.2.2 - x.2.1) R)) - 2 * (r * (len - at_)) ≤ ((cutSt len at_ cs).length : Int) * R
  | [], at_ => by
    have h := penny_near (r := r) (d := len - at_) hR
    simp only [cutSt, List.map_cons, List.map_nil, List.length_cons, List.length_nil, lsum_cons, lsum_nil, Int.add_zero]
    have e : ((0 + 1 : Nat) : Int) * R = R := by rw [show ((0 + 1 : Nat) : Int) = 1 from rfl, Int.one_mul]
    rw [e]
    exact h
  | c :: t, at_ => by
    unfold cutSt
    split
    · have h := penny_near (r := r) (d := c - at_) hR
      have ih := covers_penny r hR len t c
      simp only [List.map_cons, List.length_cons, lsum_cons]
      have e1 := Int.mul_add (2 * R) (penny r (c - at_) R) (lsum ((cutSt len c t).map (fun x => penny r (x.2.2 - x.2.1) R)))
      have e2 : r * (len - at_) = r * (c - at_) + r * (len - c) := by rw [← Int.mul_add]; congr 1; omega
      have e3 : (((cutSt len c t).length + 1 : Nat) : Int) * R = ((cutSt len c t).length : Int) * R + R := by rw [Int.natCast_add, Int.add_mul]; rw [show ((1 : Nat) : Int) = 1 from rfl, Int.one_mul]
      rw [e1, e2, e3]
      generalize ((cutSt len c t).length : Int) * R = N at *
      generalize 2 * R * penny r (c - at_) R = A at *
      generalize 2 * R * lsum ((cutSt len c t).map (fun x => penny r (x.2.2 - x.2.1) R)) = B at *
      generalize r * (c - at_) = C at *
      generalize r * (len - c) = D at *
      omega
    · exact covers_penny r hR len t at_
theorem opPay_cut (pr : List Int) {a c b : Int} (h1 : a ≤ c) (h2 : c ≤ b) (ops : List Opn) : opPay pr a b ops = opPay pr a c ops + opPay pr c b ops := by
  unfold opPay sumBy
  induction ops with
  | nil => rfl
  | cons o l ih =>
    simp only [List.map_cons, lsum_cons]
    rw [ih]
    have e : (if inB o.at_ a (b - 1) = true then prAt pr o.kind else 0) = (if inB o.at_ a (c - 1) = true then prAt pr o.kind else 0) + (if inB o.at_ c (b - 1) = true then prAt pr o.kind else 0) := by
      by_cases g1 : inB o.at_ a (c - 1) = true
      · have := inB_iff.1 g1
        rw [if_pos g1, if_pos (inB_iff.2 ⟨by omega, by omega⟩), if_neg (fun h => by have := inB_iff.1 h; omega), Int.add_zero]
      · by_cases g2 : inB o.at_ c (b - 1) = true
        · have := inB_iff.1 g2
          rw [if_neg g1, if_pos g2, if_pos (inB_iff.2 ⟨by omega, by omega⟩), Int.zero_add]
        · rw [if_neg g1, if_neg g2, if_neg (fun h => by
            have h3 := inB_iff.1 h
            by_cases h4 : o.at_ < c
            · exact g1 (inB_iff.2 ⟨h3.1, by omega⟩)
            · exact g2 (inB_iff.2 ⟨by omega, h3.2⟩))]
          rfl
    rw [e]
    omega
theorem covers_ops (pr : List Int) (ops : List Opn) (len : Int) : ∀ (cs : List Int) (at_ : Int), at_ < len → lsum ((cutSt len at_ cs).map (fun x => opPay pr x.2.1 x.2.2 ops)) = opPay pr at_ len ops
  | [], at_, _ => by simp only [cutSt, List.map_cons, List.map_nil, lsum_cons, lsum_nil, Int.add_zero]
  | c :: t, at_, h => by
    unfold cutSt
    split
    · rename_i hc
      simp only [List.map_cons, lsum_cons]
      rw [covers_ops pr ops len t c hc.2, ← opPay_cut pr (by omega) (by omega)]
    · exact covers_ops pr ops len t at_ h
theorem opPay_all (pr : List Int) {len : Int} {ops : List Opn} (h : ∀ o ∈ ops, 0 ≤ o.at_ ∧ o.at_ < len) : opPay pr 0 len ops = sumBy (fun o => prAt pr o.kind) ops := by
  unfold opPay sumBy
  congr 1
  refine List.map_congr_left fun o ho => ?_
  have := h o ho
  rw [if_pos (inB_iff.2 ⟨by omega, by omega⟩)]
theorem prAt_0 (k : Int) : prAt [0, 0, 0, 0] k = 0 := by
  unfold prAt
  rw [List.getD_eq_getElem?_getD]
  cases e : ([0, 0, 0, 0] : List Int)[(k - 1).toNat]? with
  | none => rfl
  | some p =>
    have := List.mem_of_getElem? e
    simp at this
    rw [this]; rfl
theorem opPay_0 (a b : Int) (ops : List Opn) : opPay [0, 0, 0, 0] a b ops = 0 := by
  unfold opPay sumBy
  induction ops with
  | nil => rfl
  | cons o l ih =>
    simp only [List.map_cons, lsum_cons]
    rw [ih, prAt_0]
    split <;> rfl
theorem lsum_add {α : Type} (f g : α → Int) : ∀ l : List α, lsum (l.map (fun x => f x + g x)) = lsum (l.map f) + lsum (l.map g)
  | [] => rfl
  | x :: l => by simp only [List.map_cons, lsum_cons]; rw [lsum_add f g l]; omega
/-- one waller -/
abbrev ann (rate : Int) : List WL := [(⟨#[97, 110, 110]⟩, 1, rate)]
theorem rate_ann (r : Int) : rateOf (ann r) 0 = r := rfl
theorem payS_ann (r R : Int) (ops : List Opn) (pr : List Int) {len : Int} {cs : List Int} {at_ : Int} : (cutSt len at_ cs).map (payS (ann r) R ops pr) = (cutSt len at_ cs).map (fun x => penny r (x.2.2 - x.2.1) R + opPay pr x.2.1 x.2.2 ops) :=
  List.map_congr_left fun x hx => by
    unfold payS
    rw [cutSt_zero len cs at_ x hx, rate_ann]
theorem covers_sum (r R : Int) (ops : List Opn) (pr : List Int) {len : Int} (hl : 0 < len) (cs : List Int) : lsum ((cutSt len 0 cs).map (payS (ann r) R ops pr)) = lsum ((cutSt len 0 cs).map (fun x => penny r (x.2.2 - x.2.1) R)) + opPay pr 0 len ops := by
  rw [payS_ann, lsum_add, covers_ops pr ops len cs 0 hl]
theorem covers_off (r : Int) {R : Int} (hR : 0 < R) (ops : List Opn) (pr : List Int) {len : Int} (hl : 0 < len) (cs : List Int) :
    -(((cutSt len 0 cs).length : Int) + 1) ≤ 2 * (lsum ((cutSt len 0 cs).map (payS (ann r) R ops pr)) - payS (ann r) R ops pr (0, 0, len)) ∧
    2 * (lsum ((cutSt len 0 cs).map (payS (ann r) R ops pr)) - payS (ann r) R ops pr (0, 0, len)) ≤ ((cutSt len 0 cs).length : Int) + 1 := by
  rw [covers_sum r R ops pr hl cs]
  have e : payS (ann r) R ops pr (0, 0, len) = penny r (len - 0) R + opPay pr 0 len ops := rfl
  rw [e]
  have h1 := covers_penny r hR len cs 0
  have h2 := penny_near (r := r) (d := len - 0) hR
  generalize lsum ((cutSt len 0 cs).map (fun x => penny r (x.2.2 - x.2.1) R)) = A at *
  generalize penny r (len - 0) R = B at *
  generalize ((cutSt len 0 cs).length : Int) = n at *
  generalize opPay pr 0 len ops = O at *
  have e1 : 2 * (A + O - (B + O)) = 2 * (A - B) := by omega
  rw [e1]
  have e2 : 2 * (A - B) * R = 2 * R * A - 2 * R * B := by
    rw [Int.mul_assoc 2 (A - B) R, Int.sub_mul, Int.mul_assoc 2 R A, Int.mul_assoc 2 R B, Int.mul_comm A R, Int.mul_comm B R]
    omega
  have e3 : (n + 1) * R = n * R + R := by rw [Int.add_mul, Int.one_mul]
  have e4 : (-(n + 1)) * R = -(n * R + R) := by rw [Int.neg_mul, e3]
  constructor
  · have : (-(n + 1)) * R < 2 * (A - B) * R := by rw [e4, e2]; omega
    exact Int.le_of_lt (Int.lt_of_mul_lt_mul_right this (by omega))
  · have : 2 * (A - B) * R < (n + 1) * R := by rw [e3, e2]; omega
    exact Int.le_of_lt (Int.lt_of_mul_lt_mul_right this (by omega))
/-- the plan with one wall -/
theorem gang_ann {r : Int} (h : 0 ≤ r ∧ r ≤ 1000000) : gangB (ann r) = true := by
  have h2 : inB r 0 1000000 = true := inB_iff.2 h
  have h3 : namedB ⟨#[97, 110, 110]⟩ = true := named_iff.2 ⟨by decide, by decide, fun i hi => by
    have : i < 3 := hi
    match i, this with
    | 0, _ => rfl
    | 1, _ => rfl
    | 2, _ => rfl⟩
  unfold gangB
  simp only [List.length_singleton, List.range_one, List.all_cons, List.all_nil, List.take_zero, List.getD_cons_zero, badW, List.any_nil, h2, h3]
  decide
theorem one_plan {s : Sht} {x y : Wal} (hs : sheetB s = true) (hx : wallB x s = true) (h1 : y.name = ⟨#[119, 97, 108, 108]⟩) (h2 : y.sheet = s.name) (h3 : y.len = x.len) (h4 : y.on = x.on) (h5 : y.ops = x.ops) : planB [s] [y] = true ∧ [y].find? (isW ⟨#[119, 97, 108, 108]⟩) = some y ∧ [s].find? (isS y.sheet) = some s := by
  have f1 : [y].find? (isW ⟨#[119, 97, 108, 108]⟩) = some y := by
    have : isW ⟨#[119, 97, 108, 108]⟩ y = true := by unfold isW; rw [h1]; exact beq_self_eq_true _
    rw [List.find?_cons, this]
  have f2 : [s].find? (isS y.sheet) = some s := by
    have : isS y.sheet s = true := by unfold isS; rw [h2]; exact beq_self_eq_true _
    rw [List.find?_cons, this]
  refine ⟨planB_yes (by simp) (by simp) (fun i hi => ?_) (fun i hi => ?_), f1, f2⟩
  · obtain rfl : i = 0 := by simp at hi; exact hi
    rw [okSheet_at (S := [s]) (i := 0) (by simp)]
    simp only [List.take_zero, List.any_nil, List.getElem_cons_zero, hs]
    rfl
  · obtain rfl : i = 0 := by simp at hi; exact hi
    rw [okWall_at (S := [s]) (L := [y]) (i := 0) (by simp)]
    simp only [List.getElem_cons_zero]
    rw [f2]
    simp only [Bool.and_eq_true, Bool.not_eq_true', decide_eq_false_iff_not]
    refine ⟨?_, ?_⟩
    · have := idx_le (p := isW y.name) (l := [y]) (i := 0) (by simp) (isW_self _)
      have h0 := this.1
      exact fun h => absurd h (by omega)
    · unfold wallB at hx ⊢
      rw [h3, h4, h5]
      simp only [Bool.and_eq_true] at hx ⊢
      refine ⟨⟨?_, hx.1.2⟩, hx.2⟩
      rw [h1]
      exact named_iff.2 ⟨by decide, by decide, fun i hi => by
        have : i < 4 := hi
        match i, this with
        | 0, _ => rfl
        | 1, _ => rfl
        | 2, _ => rfl
        | 3, _ => rfl⟩
theorem payR_one {s : Sht} {x y : Wal} (hs : sheetB s = true) (hx : wallB x s = true) (h1 : y.name = ⟨#[119, 97, 108, 108]⟩) (h2 : y.sheet = s.name) (h3 : y.len = x.len) (h4 : y.on = x.on) (h5 : y.ops = x.ops) {r : Int} (hr : 0 ≤ r ∧ r ≤ 1000000) {pr : List Int} (hp : priceB pr = true) {st : List I3} (hok : payOk 1 x.len 0 st = true) :
    payR [s] [y] ⟨#[119, 97, 108, 108]⟩ (ann r) st pr = (0, st.map (payS (ann r) s.rood x.ops pr)) := by
  obtain ⟨g1, g2, g3⟩ := one_plan hs hx h1 h2 h3 h4 h5
  rw [payR_found (by rw [gang_ann hr, g1, hp]; rfl) g2 g3, h3, h5, show (ann r).length = 1 from rfl, if_pos hok]
end Go.Proofs.YtchignmnnbepnaaGreat
namespace Go.Proofs.YtchignmnnbepnaaGreat
open Go.RowKit
theorem KeepsNew.trans {B : Nat} {A V V' : World} (h : KeepsNew B A V) (k : KeepsNew B V V') : KeepsNew B A V' := ⟨Nat.le_trans h.1 k.1, fun b hb hl => (k.2 b hb (Nat.lt_of_lt_of_le hl h.1)).trans (h.2 b hb hl)⟩
theorem KeepsNew.mono {B B' : Nat} {A V : World} (h : KeepsNew B A V) (hB : B ≤ B') : KeepsNew B' A V := ⟨h.1, fun b hb hl => h.2 b (Nat.le_trans hB hb) hl⟩
theorem KeepsNew.refl (B : Nat) (A : World) : KeepsNew B A A := ⟨Nat.le_refl _, fun _ _ _ => rfl⟩
theorem und_RSheets : Tryz.prog.underlying 22 = some (.slice 53) := Tryz.underlying22
theorem info_RSheet2 : (Tryz.prog.info? 53).map (fun i => (i.zero, i.size)) = some (some zS, 20) := by kernel_rfl
theorem zero_RPlan : (Tryz.prog.info? 25).map (·.zero) = some (some (.agg #[.slice none 0 0, .slice none 0 0])) := by kernel_rfl
theorem zero_Plan : (Tryz.prog.info? 38).map (·.zero) = some (some (.agg #[.slice none 0 0, .slice none 0 0])) := by kernel_rfl
theorem wpList_bs {P : Program} {w W : World} {bs : List (Nat × Array Value × TypeId)} {os : List Rw} {rs : List (World → Prop)} {ops : Array Oper} {rest : List Oper} {o : Oper} {a : Act} {Q : Exit → Act → World → Prop} (hgd : o.guard = none) (h : Sy w W bs os rs) (t e : TypeId) (x : Operand) (ho : o.op = .buildSlice t 1 #[(0, x)]) (size : Nat) (z : Value) (cells : Array Value) (v : Value)
    (hu : P.underlying t = some (.slice e)) (hi : (P.info? e).map (fun i => (i.zero, i.size)) = some (some z, size)) (hp : 0 < size) (hm : size ≤ 1000) (hx : a.eval x = v)
    (hf : Instr.fill (fun i => some (i * size, size)) ((Array.range (1 * size)).map (z.cells[· % z.cells.size]!)) [(0, v)] = some cells) (hs : cells.size = 1 * size)
    (hK : ∀ g V, Sy w V bs (os ++ [⟨.slice (some ⟨g, 0, none⟩) 1 1, e, size, 1, cells.toList⟩]) rs → wpList P ops Q rest (a.put o.dst (.slice (some ⟨g, 0, none⟩) 1 1)) V) : wpList P ops Q (o :: rest) a W :=
  wpList_plain hgd fun _ hK' => op_bs h t e x ho size z cells v hu hi hp hm hx hf hs (fun g V hV => hK' _ _ (hK g V hV))
section
variable (w : World)
set_option maxHeartbeats 8000000 in
set_option maxRecDepth 100000 in
theorem ref0_any (sa wa : Option Addr) (S : List Sht) (L : List Wal) (sc wc : Nat) (hS : Shts w sa S.length sc S) (hL : Wals w wa L.length wc L) {k k2 : Nat} (hk : k < L.length) (hk2 : k2 < S.length) (hi : idxB (isS L[k].sheet) S = k2) :
    Calls Tryz.prog 19 #[.agg #[.slice sa S.length sc, .slice wa L.length wc], .int .i64 k] w (fun e w' => ∃ g, e = .returned (.agg #[.slice (some ⟨g, 0, none⟩) 1 1, .slice none 0 0]) ∧ Hid (w'.ownsRow w.heap.size 53 20 (.slice (some ⟨g, 0, none⟩) 1 1) 1 (cS S[k2])) ∧ Below w.heap.size w w') := by
  have capS := hS.row.cap
  have capL := hL.row.cap
  unfold maxLen at capS capL
  obtain ⟨g1', o1, rfl⟩ := hL.row.addr (by omega)
  obtain ⟨g0, o0, rfl⟩ := hS.row.addr (by omega)
  have HFS := Lib.hid (fun W (h : Below w.heap.size w W) => refFindSheet_any W (some ⟨g0, o0, none⟩) S.length sc S (.slice (some ⟨g1', o1, none⟩) L.length wc) L[k].sheet (hS.row.below h))
  rw [hi] at HFS
  have HRS := Lib.hid (fun W (hW : Below w.heap.size w W) => (hS.row.below hW).range (f := cS) (fun _ => rfl) hk2)
  have HSN := Lib.hid (fun W (hW : Below w.heap.size w W) => ((hL.row.below hW).atWa hk).2.1)
  have i0 : (0 : Int) ≤ (k : Int) := by omega
  have i1 : (k : Int) < (L.length : Int) := by omega
  have e0 : (0 : Int) ≤ (k2 : Int) := by omega
  have e1 : (k2 : Int) < (S.length : Int) := by omega
  clear hS hL hi
  generalize L[k] = x at *
  generalize S[k2] = s at *
  obtain ⟨VS, hVS⟩ : ∃ V, Value.agg (cS s).toArray = V := ⟨_, rfl⟩
  have HVS := Lib.hid hVS
  have HFI := Lib.hid (fill_sheet s)
  rw [hVS] at HFI
  clear hVS
  go_enter Tryz.func19, Tryz.ntmps19
  go_upto_region 1 with (first | (refine wpList_bx (o := ⟨some 2, _, _, _, _, _⟩) rfl (Sy.enter w) _ _ rfl #[.slice (some ⟨g0, o0, none⟩) S.length sc, .slice (some ⟨g1', o1, none⟩) L.length wc] rfl ?_; intro b2 V1 h1; have hA := Lib.hid h1; clear h1) | (refine wpList_al (o := ⟨some 4, _, _, _, _, _⟩) rfl hA.out _ rfl (.agg #[.slice none 0 0, .slice none 0 0]) zero_RPlan ?_; intro b4 V2 h2; have hC := Lib.hid h2; clear h2 hA) | fail)
  refine wp_region_held_drew (S := (fun w' => w'.cell? ⟨b2, 0, none⟩ = some (.slice (some ⟨g0, o0, none⟩) S.length sc) ∧ w'.cell? ⟨b2, 1, none⟩ = some (.slice (some ⟨g1', o1, none⟩) L.length wc) ∧ w'.cell? ⟨g1', o1 + k * 4 + 1, none⟩ = some (.string x.sheet) ∧ True)) (by kernel_rfl) ⟨hC.out.drew.cell 0 0 rfl rfl, hC.out.drew.cell 0 1 rfl rfl, (HSN.out _ hC.out.drew.be), trivial⟩ (fun hH => ?_)
  refine wpAnyH_geny (show Sy w _ [(b2, #[.slice (some ⟨g0, o0, none⟩) S.length sc, .slice (some ⟨g1', o1, none⟩) L.length wc], 25), (b4, #[.slice none 0 0, .slice none 0 0], 25)] [] [] from hC.out.drew) hH ?_
  intro VR_0 hc hHR_0
  have hVR_0 := Lib.hid hc
  clear hc hH hC
  refine wpAnyH_take (i := 0) (oi := ⟨_, _, _, _, _, _⟩) (v := ?_) rfl (by kernel_rfl) (by kernel_rfl) (by kernel_rfl) (fun _ _ _ h => h) (Or.inl ⟨by rfl, ?_⟩) hHR_0 ?_
  rotate_left
  · intro wS hSw; (try dsimp only at hSw); go_simp; try with_reducible rfl
  try simp only [Act.put, List.setIfInBounds_toArray, List.set_cons_zero, List.set_cons_succ]
  refine wpAnyH_take (i := 1) (oi := ⟨_, _, _, _, _, _⟩) (v := ?_) rfl (by kernel_rfl) (by kernel_rfl) (by kernel_rfl) (fun _ _ _ h => h) (Or.inl ⟨by rfl, ?_⟩) hHR_0 ?_
  rotate_left
  · intro wS hSw; (try dsimp only at hSw); go_simp; try with_reducible rfl
  try simp only [Act.put, List.setIfInBounds_toArray, List.set_cons_zero, List.set_cons_succ]
  refine wpAnyH_take (i := 2) (oi := ⟨_, _, _, _, _, _⟩) (v := ?_) rfl (by kernel_rfl) (by kernel_rfl) (by kernel_rfl) (fun _ _ _ h => h) (Or.inl ⟨by rfl, ?_⟩) hHR_0 ?_
  rotate_left
  · intro wS hSw; (try dsimp only at hSw); go_simp; try with_reducible rfl
  try simp only [Act.put, List.setIfInBounds_toArray, List.set_cons_zero, List.set_cons_succ]
  refine wpAnyH_take (i := 3) (oi := ⟨_, _, _, _, _, _⟩) (v := ?_) rfl (by kernel_rfl) (by kernel_rfl) (by kernel_rfl) (fun _ _ _ h => h) (Or.inl ⟨by rfl, ?_⟩) hHR_0 ?_
  rotate_left
  · intro wS hSw; (try dsimp only at hSw); go_simp; try with_reducible rfl
  try simp only [Act.put, List.setIfInBounds_toArray, List.set_cons_zero, List.set_cons_succ]
  refine wpAnyH_take (i := 4) (oi := ⟨_, _, _, _, _, _⟩) (v := ?_) rfl (by kernel_rfl) (by kernel_rfl) (by kernel_rfl) (fun _ _ _ h => h) (Or.inl ⟨by rfl, ?_⟩) hHR_0 ?_
  rotate_left
  · intro wS hSw; (try dsimp only at hSw); go_simp; try with_reducible rfl
  try simp only [Act.put, List.setIfInBounds_toArray, List.set_cons_zero, List.set_cons_succ]
  refine wpAnyH_take (i := 5) (oi := ⟨_, _, _, _, _, _⟩) (v := ?_) rfl (by kernel_rfl) (by kernel_rfl) (by kernel_rfl) (fun _ _ _ h => h) (Or.inl ⟨by rfl, ?_⟩) hHR_0 ?_
  rotate_left
  · intro wS hSw; (try dsimp only at hSw); go_simp; try with_reducible rfl
  try simp only [Act.put, List.setIfInBounds_toArray, List.set_cons_zero, List.set_cons_succ]
  refine wpAnyH_take (i := 6) (oi := ⟨_, _, _, _, _, _⟩) (v := ?_) rfl (by kernel_rfl) (by kernel_rfl) (by kernel_rfl) (fun _ _ _ h => h) (Or.inl ⟨by rfl, ?_⟩) hHR_0 ?_
  rotate_left
  · intro wS hSw; (try dsimp only at hSw); go_simp; try with_reducible rfl
  try simp only [Act.put, List.setIfInBounds_toArray, List.set_cons_zero, List.set_cons_succ]
  refine wpAnyH_ready (rs := [7]) (by kernel_rfl) (by simp) ?_
  refine AllReadyH.cons (o := ⟨_, _, _, _, _, _⟩) rfl (fun Kq hKq => ?_) AllReadyH.nil
  go_simp
  go_at_call 16
  refine (HFS.out _ hVR_0.out.be).mono ?_
  rintro e wT ⟨rfl, hb⟩
  (try go_wp2_with fail)
  refine stepY hKq (show Sy w _ [(b2, #[.slice (some ⟨g0, o0, none⟩) S.length sc, .slice (some ⟨g1', o1, none⟩) L.length wc], 25), (b4, #[.slice none 0 0, .slice none 0 0], 25)] [] [] from (hVR_0.out.call hb)) (fun _ hX => ⟨hX.cell 0 0 rfl rfl, hX.cell 0 1 rfl rfl, (HSN.out _ hX.be), trivial⟩) ?_
  intro VR_1 hc hHR_1
  have hVR_1 := Lib.hid hc
  clear hc hKq Kq hVR_0 hb hHR_0
  try simp only [Act.put, List.setIfInBounds_toArray, List.set_cons_zero, List.set_cons_succ]
  refine wpAnyH_ready (rs := [8]) (by kernel_rfl) (by simp) ?_
  refine AllReadyH.cons (o := ⟨_, _, _, _, _, _⟩) rfl (fun Kq hKq => ?_) AllReadyH.nil
  go_simp
  refine stepY hKq (show Sy w _ [(b2, #[.slice (some ⟨g0, o0, none⟩) S.length sc, .slice (some ⟨g1', o1, none⟩) L.length wc], 25), (b4, #[.slice none 0 0, .slice none 0 0], 25)] [] [] from hVR_1.out) (fun _ hX => ⟨hX.cell 0 0 rfl rfl, hX.cell 0 1 rfl rfl, (HSN.out _ hX.be), trivial⟩) ?_
  intro VR_2 hc hHR_2
  have hVR_2 := Lib.hid hc
  clear hc hKq Kq hVR_1 hHR_1
  try simp only [Act.put, List.setIfInBounds_toArray, List.set_cons_zero, List.set_cons_succ]
  refine wpAnyH_done (by kernel_rfl) ?_ _
  have x0 := hVR_2.out.cell 0 0 rfl rfl
  have HRC := Lib.hid (HRS.out _ hVR_2.out.be)
  go_wp2_with (first | (refine wpList_ld (o := ⟨some 18, _, _, _, _, _⟩) rfl _ _ rfl _ _ rfl (cS s) _ HRC.out Tryz.underlying53 rfl info_RSheet VS HVS.out ?_) | (refine wpList_bs (o := ⟨some 19, _, _, _, _, _⟩) rfl hVR_2.out _ _ _ rfl 20 zS (cS s).toArray VS und_RSheets info_RSheet2 (by omega) (by omega) rfl HFI.out rfl ?_; intro g VB hV; have hD := Lib.hid hV; clear hV; have y0 := hD.out.cell 1 0 rfl rfl; have y1 := hD.out.cell 1 1 rfl rfl; have f0 := hD.out.free 1 0 rfl; have f1 := hD.out.free 1 1 rfl; have l1 := hD.out.lt 1 rfl) | fail)
  have hE := Lib.hid (hD.out |>.set (j := 0) (v := .slice (some ⟨g, 0, none⟩) 1 1) 1 rfl |>.set (j := 1) (v := .slice none 0 0) 1 rfl)
  refine ret_sy hE.out (v := .agg #[.slice (some ⟨g, 0, none⟩) 1 1, .slice none 0 0]) (fun hF => ?_) rfl (fun hF => ⟨g, rfl, Lib.hid (hF.orow 0 rfl), hF.be⟩)
  have z0 := hF.cell 1 0 rfl rfl
  have z1 := hF.cell 1 1 rfl rfl
  simp [results, Tryz.results19, go_sem, z0, z1]
/-- the plan of one wall -/
def RetOne (w : World) (s : Sht) (y : Wal) (e : Ending) (w' : World) : Prop := ∃ (a a' : Option Addr) (c c' : Nat) (T : List Sht) (M : List Wal), Hid (T.map nS = [s].map nS) ∧ Hid (M.map nW = [y].map nW) ∧ e = .returned (.agg #[.slice a 1 c, .slice a' 1 c']) ∧ Hid (∀ V, KeepsNew w.heap.size w' V → Shts V a 1 c T ∧ Wals V a' 1 c' M) ∧ Below w.heap.size w w'
set_option maxHeartbeats 8000000 in
set_option maxRecDepth 100000 in
theorem planOf_any (sa : Option Addr) (sc : Nat) (s : Sht) (wl : Value) (len : Int) (oa : Option Addr) (on oc : Nat) (ops : List Opn) (hS : Shts w sa 1 sc [s]) (hO : Sx 5 w oa on oc (LO ops)) (hK : ∀ o ∈ ops, 0 ≤ o.kind ∧ o.kind ≤ 255) (h1 : s.hn ≤ 1000) (h2 : on ≤ 1000) :
    Calls Tryz.prog 18 #[.agg #[.slice sa 1 sc, wl], .int .i64 len, .slice oa on oc] w (RetOne w s ⟨⟨#[119, 97, 108, 108]⟩, s.name, len, oa, on, oc, ops⟩) := by
  obtain ⟨g0, o0, rfl⟩ := hS.row.addr (by omega)
  have HNM := Lib.hid (show ∀ W, Below w.heap.size w W → W.cell? ⟨g0, o0, none⟩ = some (.string s.name) from fun W h => by simpa using ((hS.row.below h).atS (l := [s]) (i := 0) (by simp)).1)
  have HPL := Lib.hid (show ∀ W gw, Below w.heap.size w W → Sx 4 W (some ⟨gw, 0, none⟩) 1 1 [.string ⟨#[119, 97, 108, 108]⟩, .string s.name, .int .i64 len, .slice oa on oc] → Calls Tryz.prog 8 #[.agg #[.slice (some ⟨g0, o0, none⟩) 1 sc, .slice (some ⟨gw, 0, none⟩) 1 1]] W (RetOne W s ⟨⟨#[119, 97, 108, 108]⟩, s.name, len, oa, on, oc, ops⟩) from fun W gw hW hw =>
    (lPlan_any W (some ⟨g0, o0, none⟩) (some ⟨gw, 0, none⟩) 1 sc 1 1 [s] [⟨⟨#[119, 97, 108, 108]⟩, s.name, len, oa, on, oc, ops⟩] (hS.below hW)
      ⟨by simpa [LWa, cWa] using hw, fun x hx => by rw [List.mem_singleton.1 hx]; exact hO.below hW, fun x hx => by rw [List.mem_singleton.1 hx]; exact ⟨(show (4 : Nat) ≤ maxLen by decide), hS.nam s (by simp)⟩, fun x hx => by rw [List.mem_singleton.1 hx]; exact hK⟩
      ⟨by simp, by simp⟩ (fun x hx => by rw [List.mem_singleton.1 hx]; exact h1) (fun x hx => by rw [List.mem_singleton.1 hx]; exact h2)).mono fun e w' ⟨a, a', c, c', T, M, q1, q2, q3, _, _, q4, q5⟩ => ⟨a, a', c, c', T, M, Lib.hid q1, Lib.hid q2, q3, Lib.hid q5, q4⟩)
  clear hS hO hK h1 h2
  generalize s.name = nm at *
  go_enter Tryz.func18, Tryz.ntmps18
  go_upto_region 1 with (first | (refine wpList_bx (o := ⟨some 3, _, _, _, _, _⟩) rfl (Sy.enter w) _ _ rfl #[.slice (some ⟨g0, o0, none⟩) 1 sc, wl] rfl ?_; intro b3 V1 h1; have hA := Lib.hid h1; clear h1) | (refine wpList_al (o := ⟨some 6, _, _, _, _, _⟩) rfl hA.out _ rfl (.agg #[.slice none 0 0, .slice none 0 0]) zero_Plan ?_; intro b6 V2 h2; have hC := Lib.hid h2; clear h2 hA) | fail)
  refine wp_region_held_drew (S := (fun w' => w'.cell? ⟨b3, 0, none⟩ = some (.slice (some ⟨g0, o0, none⟩) 1 sc) ∧ w'.cell? ⟨b3, 1, none⟩ = some (wl) ∧ w'.cell? ⟨g0, o0, none⟩ = some (.string nm) ∧ True)) (by kernel_rfl) ⟨hC.out.drew.cell 0 0 rfl rfl, hC.out.drew.cell 0 1 rfl rfl, (HNM.out _ hC.out.drew.be), trivial⟩ (fun hH => ?_)
  refine wpAnyH_geny (show Sy w _ [(b3, #[.slice (some ⟨g0, o0, none⟩) 1 sc, wl], 25), (b6, #[.slice none 0 0, .slice none 0 0], 38)] [] [] from hC.out.drew) hH ?_
  intro VQ_0 hc hHQ_0
  have hVQ_0 := Lib.hid hc
  clear hc hH hC
  refine wpAnyH_take (i := 0) (oi := ⟨_, _, _, _, _, _⟩) (v := ?_) rfl (by kernel_rfl) (by kernel_rfl) (by kernel_rfl) (fun _ _ _ h => h) (Or.inl ⟨by rfl, ?_⟩) hHQ_0 ?_
  rotate_left
  · intro wS hSw; (try dsimp only at hSw); go_simp; try with_reducible rfl
  try simp only [Act.put, List.setIfInBounds_toArray, List.set_cons_zero, List.set_cons_succ]
  refine wpAnyH_take (i := 1) (oi := ⟨_, _, _, _, _, _⟩) (v := ?_) rfl (by kernel_rfl) (by kernel_rfl) (by kernel_rfl) (fun _ _ _ h => h) (Or.inl ⟨by rfl, ?_⟩) hHQ_0 ?_
  rotate_left
  · intro wS hSw; (try dsimp only at hSw); go_simp; try with_reducible rfl
  try simp only [Act.put, List.setIfInBounds_toArray, List.set_cons_zero, List.set_cons_succ]
  refine wpAnyH_take (i := 2) (oi := ⟨_, _, _, _, _, _⟩) (v := ?_) rfl (by kernel_rfl) (by kernel_rfl) (by kernel_rfl) (fun _ _ _ h => h) (Or.inl ⟨by rfl, ?_⟩) hHQ_0 ?_
  rotate_left
  · intro wS hSw; (try dsimp only at hSw); go_simp; try with_reducible rfl
  try simp only [Act.put, List.setIfInBounds_toArray, List.set_cons_zero, List.set_cons_succ]
  refine wpAnyH_take (i := 3) (oi := ⟨_, _, _, _, _, _⟩) (v := ?_) rfl (by kernel_rfl) (by kernel_rfl) (by kernel_rfl) (fun _ _ _ h => h) (Or.inl ⟨by rfl, ?_⟩) hHQ_0 ?_
  rotate_left
  · intro wS hSw; (try dsimp only at hSw); go_simp; try with_reducible rfl
  try simp only [Act.put, List.setIfInBounds_toArray, List.set_cons_zero, List.set_cons_succ]
  refine wpAnyH_take (i := 4) (oi := ⟨_, _, _, _, _, _⟩) (v := ?_) rfl (by kernel_rfl) (by kernel_rfl) (by kernel_rfl) (fun _ _ _ h => h) (Or.inl ⟨by rfl, ?_⟩) hHQ_0 ?_
  rotate_left
  · intro wS hSw; (try dsimp only at hSw); go_simp; try with_reducible rfl
  try simp only [Act.put, List.setIfInBounds_toArray, List.set_cons_zero, List.set_cons_succ]
  refine wpAnyH_take (i := 5) (oi := ⟨_, _, _, _, _, _⟩) (v := ?_) rfl (by kernel_rfl) (by kernel_rfl) (by kernel_rfl) (fun _ _ _ h => h) (Or.inl ⟨by rfl, ?_⟩) hHQ_0 ?_
  rotate_left
  · intro wS hSw; (try dsimp only at hSw); go_simp; try with_reducible rfl
  try simp only [Act.put, List.setIfInBounds_toArray, List.set_cons_zero, List.set_cons_succ]
  refine wpAnyH_take (i := 6) (oi := ⟨_, _, _, _, _, _⟩) (v := ?_) rfl (by kernel_rfl) (by kernel_rfl) (by kernel_rfl) (fun _ _ _ h => h) (Or.inl ⟨by rfl, ?_⟩) hHQ_0 ?_
  rotate_left
  · intro wS hSw; (try dsimp only at hSw); go_simp; try with_reducible rfl
  try simp only [Act.put, List.setIfInBounds_toArray, List.set_cons_zero, List.set_cons_succ]
  refine wpAnyH_take (i := 7) (oi := ⟨_, _, _, _, _, _⟩) (v := ?_) rfl (by kernel_rfl) (by kernel_rfl) (by kernel_rfl) (fun _ _ _ h => h) (Or.inl ⟨by rfl, ?_⟩) hHQ_0 ?_
  rotate_left
  · intro wS hSw; (try dsimp only at hSw); go_simp; try with_reducible rfl
  try simp only [Act.put, List.setIfInBounds_toArray, List.set_cons_zero, List.set_cons_succ]
  refine wpAnyH_take (i := 8) (oi := ⟨_, _, _, _, _, _⟩) (v := ?_) rfl (by kernel_rfl) (by kernel_rfl) (by kernel_rfl) (fun _ _ _ h => h) (Or.inl ⟨by rfl, ?_⟩) hHQ_0 ?_
  rotate_left
  · intro wS hSw; (try dsimp only at hSw); go_simp; try with_reducible rfl
  try simp only [Act.put, List.setIfInBounds_toArray, List.set_cons_zero, List.set_cons_succ]
  refine wpAnyH_take (i := 9) (oi := ⟨_, _, _, _, _, _⟩) (v := ?_) rfl (by kernel_rfl) (by kernel_rfl) (by kernel_rfl) (fun _ _ _ h => h) (Or.inl ⟨by rfl, ?_⟩) hHQ_0 ?_
  rotate_left
  · intro wS hSw; (try dsimp only at hSw); go_simp; try with_reducible rfl
  try simp only [Act.put, List.setIfInBounds_toArray, List.set_cons_zero, List.set_cons_succ]
  refine wpAnyH_ready (rs := [10]) (by kernel_rfl) (by simp) ?_
  refine AllReadyH.cons (o := ⟨_, _, _, _, _, _⟩) rfl (fun Kq hKq => ?_) AllReadyH.nil
  go_simp
  refine stepY hKq (show Sy w _ [(b3, #[.slice (some ⟨g0, o0, none⟩) 1 sc, wl], 25), (b6, #[.slice none 0 0, .slice none 0 0], 38)] [⟨.slice (some ⟨VQ_0.heap.size, 0, none⟩) 1 1, 51, 4, 1, [.string ⟨#[119, 97, 108, 108]⟩, .string nm, .int .i64 len, .slice oa on oc]⟩] [] from (hVQ_0.out.onew VQ_0.heap.size #[.string ⟨#[119, 97, 108, 108]⟩, .string nm, .int .i64 len, .slice oa on oc] 51 4 1 rfl (by omega) rfl)) (fun _ hX => ⟨hX.cell 0 0 rfl rfl, hX.cell 0 1 rfl rfl, (HNM.out _ hX.be), trivial⟩) ?_
  intro VQ_1 hc hHQ_1
  have hVQ_1 := Lib.hid hc
  clear hc hKq Kq hVQ_0 hHQ_0
  try simp only [Act.put, List.setIfInBounds_toArray, List.set_cons_zero, List.set_cons_succ]
  refine wpAnyH_take (i := 11) (oi := ⟨_, _, _, _, _, _⟩) (v := ?_) rfl (by kernel_rfl) (by kernel_rfl) (by kernel_rfl) (fun _ _ _ h => h) (Or.inl ⟨by rfl, ?_⟩) hHQ_1 ?_
  rotate_left
  · intro wS hSw; (try dsimp only at hSw); go_simp; try with_reducible rfl
  try simp only [Act.put, List.setIfInBounds_toArray, List.set_cons_zero, List.set_cons_succ]
  refine wpAnyH_ready (rs := [12]) (by kernel_rfl) (by simp) ?_
  refine AllReadyH.cons (o := ⟨_, _, _, _, _, _⟩) rfl (fun Kq hKq => ?_) AllReadyH.nil
  go_simp
  go_at_call 8
  refine (HPL.out _ _ hVQ_1.out.be (hVQ_1.out.osx 0 rfl)).mono ?_
  rintro e wT ⟨a6, a7, c6, c7, T, M, hT, hM, rfl, hP, hb⟩
  (try go_wp2_with fail)
  refine stepY hKq (show Sy w _ [(b3, #[.slice (some ⟨g0, o0, none⟩) 1 sc, wl], 25), (b6, #[.slice none 0 0, .slice none 0 0], 38)] [⟨.slice (some ⟨VQ_0.heap.size, 0, none⟩) 1 1, 51, 4, 1, [.string ⟨#[119, 97, 108, 108]⟩, .string nm, .int .i64 len, .slice oa on oc]⟩] [fun V => ∀ V', KeepsNew w.heap.size V V' → Shts V' a6 1 c6 T ∧ Wals V' a7 1 c7 M] from ((hVQ_1.out.call hb).push (r := fun V => ∀ V', KeepsNew w.heap.size V V' → Shts V' a6 1 c6 T ∧ Wals V' a7 1 c7 M) (fun V hV V' hV' => hP.out V' ((hVQ_1.out.newer hV).trans (hV'.mono hVQ_1.out.be.size))))) (fun _ hX => ⟨hX.cell 0 0 rfl rfl, hX.cell 0 1 rfl rfl, (HNM.out _ hX.be), trivial⟩) ?_
  intro VQ_2 hc hHQ_2
  have hVQ_2 := Lib.hid hc
  clear hc hKq Kq hVQ_1 hb hP hHQ_1
  try simp only [Act.put, List.setIfInBounds_toArray, List.set_cons_zero, List.set_cons_succ]
  refine wpAnyH_ready (rs := [13]) (by kernel_rfl) (by simp) ?_
  refine AllReadyH.cons (o := ⟨_, _, _, _, _, _⟩) rfl (fun Kq hKq => ?_) AllReadyH.nil
  have cQ0 := hVQ_2.out.cell 1 0 rfl rfl
  have fQ0 := hVQ_2.out.free 1 0 rfl
  have cQ1 := hVQ_2.out.cell 1 1 rfl rfl
  have fQ1 := hVQ_2.out.free 1 1 rfl
  go_simp
  refine stepY hKq (show Sy w _ [(b3, #[.slice (some ⟨g0, o0, none⟩) 1 sc, wl], 25), (b6, #[.slice a6 1 c6, .slice a7 1 c7], 38)] [⟨.slice (some ⟨VQ_0.heap.size, 0, none⟩) 1 1, 51, 4, 1, [.string ⟨#[119, 97, 108, 108]⟩, .string nm, .int .i64 len, .slice oa on oc]⟩] [fun V => ∀ V', KeepsNew w.heap.size V V' → Shts V' a6 1 c6 T ∧ Wals V' a7 1 c7 M] from (hVQ_2.out |>.set (j := 0) (v := .slice a6 1 c6) 1 rfl |>.set (j := 1) (v := .slice a7 1 c7) 1 rfl)) (fun _ hX => ⟨hX.cell 0 0 rfl rfl, hX.cell 0 1 rfl rfl, (HNM.out _ hX.be), trivial⟩) ?_
  intro VQ_3 hc hHQ_3
  have hVQ_3 := Lib.hid hc
  clear hc hKq Kq hVQ_2 cQ0 fQ0 cQ1 fQ1 hHQ_2
  try simp only [Act.put]
  refine wpAnyH_done (by kernel_rfl) ?_ _
  go_wp2
  refine ret_sy hVQ_3.out (v := .agg #[.slice a6 1 c6, .slice a7 1 c7]) (fun hF => ?_) rfl (fun hF => ⟨a6, a7, c6, c7, T, M, hT, hM, rfl, Lib.hid (hF.r 0 rfl), hF.be⟩)
  have z0 := hF.cell 1 0 rfl rfl
  have z1 := hF.cell 1 1 rfl rfl
  simp [results, Tryz.results18, go_sem, z0, z1]
end
end Go.Proofs.YtchignmnnbepnaaGreat

/- the law GangCovers, walked -/
import Derived.Test.YtchignmnnbepnaaGreatJ52
import Derived.Test.YtchignmnnbepnaaGreatJ46
namespace Go.Proofs.YtchignmnnbepnaaGreat
open Go.RowKit
theorem zero_RWall : (Tryz.prog.info? 51).map (·.zero) = some (some zW) := by kernel_rfl
theorem payS_bd {r R : Int} {ops : List Opn} {pr : List Int} (hr : 0 ≤ r ∧ r ≤ 1000000) (hR : 1 ≤ R ∧ R ≤ 100000) (hp : priceB pr = true) (hl : ops.length ≤ 20) {len : Int} (hlen : 1 ≤ len ∧ len ≤ 100000) {x : I3} (hx : x.1 = 0) (hd : 0 ≤ x.2.2 - x.2.1 ∧ x.2.2 - x.2.1 ≤ len) : 0 ≤ payS (ann r) R ops pr x ∧ payS (ann r) R ops pr x ≤ 400000000000 := by
  unfold payS
  rw [hx, rate_ann]
  have h1 := penny_bd hr (d := x.2.2 - x.2.1) ⟨hd.1, by omega⟩ hR
  have h2 := opPay_bd (fun p hq => inB_iff.1 (List.all_eq_true.1 hp p hq)) (fr := x.2.1) (tq := x.2.2) hl
  omega
theorem pay_one (w : World) (sa wa : Option Addr) (sc wk : Nat) (T : List Sht) (M : List Wal) {s : Sht} {x y : Wal} (hT : T.map nS = [s].map nS) (hM : M.map nW = [y].map nW) (hS : Shts w sa 1 sc T) (hL : Wals w wa 1 wk M) (hs : sheetB s = true) (hx : wallB x s = true) (h1 : y.name = ⟨#[119, 97, 108, 108]⟩) (h2 : y.sheet = s.name) (h3 : y.len = x.len) (h4 : y.on = x.on) (h5 : y.ops = x.ops)
    (a1 : Option Addr) (c1 : Nat) {r : Int} (hr : 0 ≤ r ∧ r ≤ 1000000) (hl : Sx 3 w a1 1 c1 (LW (ann r))) (a2 : Option Addr) (n2 c2 : Nat) (st : List I3) (hst : Sx 3 w a2 n2 c2 (L3 st)) (hl2 : st.length ≤ 1000) (p0 p1 p2 p3 : Int) (hp : priceB [p0, p1, p2, p3] = true) (hok : payOk 1 x.len 0 st = true) {X : List Int} (hX : st.map (payS (ann r) s.rood x.ops [p0, p1, p2, p3]) = X) {m : Nat} (hm : X.length = m) :
    Calls Tryz.prog 7 #[.agg #[.slice sa 1 sc, .slice wa 1 wk], .string ⟨#[119, 97, 108, 108]⟩, .slice a1 1 c1, .slice a2 n2 c2, .agg #[.int .i64 p0, .int .i64 p1, .int .i64 p2, .int .i64 p3]] w (fun e w' => ∃ a c, e = .returned (.tuple #[.slice a m c, .int .i64 0]) ∧ Hid (w'.ownsRow w.heap.size 3 1 (.slice a m c) m (L1 X)) ∧ Below w.heap.size w w') := by
  subst hX hm
  have := gpay_any w sa wa 1 sc 1 wk T M ⟨#[119, 97, 108, 108]⟩ a1 1 c1 (ann r) p0 p1 p2 p3 hS hL hl (fun x hx => by rw [List.mem_singleton.1 hx]; show (3 : Nat) ≤ maxLen; decide) a2 n2 c2 st hst hl2
  rw [payR_copy hT hM, payR_one hs hx h1 h2 h3 h4 h5 hr hp hok] at this
  exact this
section
variable (w : World)
set_option maxRecDepth 100000 in
set_option maxHeartbeats 32000000 in
theorem gangCovers_walk (sa wa : Option Addr) (S : List Sht) (L : List Wal) (sc wk : Nat) (nm : ByteArray) (rate : Int) (a1 : Option Addr) (n1 c1 : Nat) (cuts : List Int) (p0 p1 p2 p3 : Int) (hS : Shts w sa S.length sc S) (hL : Wals w wa L.length wk L) (hl : Sx 1 w a1 n1 c1 (L1 cuts)) :
    Calls Tryz.prog 4 #[.agg #[.slice sa S.length sc, .slice wa L.length wk], .string nm, .int .i64 rate, .slice a1 n1 c1, .agg #[.int .i64 p0, .int .i64 p1, .int .i64 p2, .int .i64 p3]] w (Gives (.bool true) w) := by
  have cap1 := hl.cap
  have capS := hS.row.cap
  have capL := hL.row.cap
  unfold maxLen at cap1 capS capL
  obtain rfl := hl.n1
  have HW := Lib.hid wakes_any
  have HS := Lib.hid hS
  have HL := Lib.hid hL
  have H1 := Lib.hid hl
  have HFW := Lib.hid (fun W (h : Below w.heap.size w W) => refFindWall_any W wa L.length wk L (.slice sa S.length sc) nm (HL.out.row.below h))
  have HRV := Lib.hid (fun W (h : Below w.heap.size w W) => refValid_any W sa wa S.length sc L.length wk S L (HS.out.below h) (HL.out.below h))
  clear hS hL hl
  go_enter Tryz.func4, Tryz.ntmps4
  go_upto_region 1 with (first | (refine wpList_bx (o := ⟨some 5, _, _, _, _, _⟩) rfl (Sy.enter w) _ _ rfl #[.slice sa S.length sc, .slice wa L.length wk] rfl ?_; intro b5 V1 h1; have hA := Lib.hid h1; clear h1) | (refine wpList_bx (o := ⟨some 9, _, _, _, _, _⟩) rfl hA.out _ _ rfl #[.int .i64 p0, .int .i64 p1, .int .i64 p2, .int .i64 p3] rfl ?_; intro b9 V2 h2; have hC := Lib.hid h2; clear h2 hA) | fail)
  have x0 : V2.cell? ⟨b5, 0, none⟩ = some (.slice sa S.length sc) := hC.out.cell 0 0 rfl rfl
  have x1 : V2.cell? ⟨b5, 1, none⟩ = some (.slice wa L.length wk) := hC.out.cell 0 1 rfl rfl
  rcases find_idx (p := isW nm) (l := L) with ⟨h1, h2⟩ | ⟨k, hk, h1, h2, -⟩
  · rw [h1] at HFW
    clear h1 h2
    go_wp2_with fail
    refine (HFW.out _ hC.out.be).mono ?_
    rintro e W3 ⟨rfl, hb⟩
    have hD := Lib.hid (hC.out.call hb)
    clear hb hC x0 x1 HFW
    have x0 : W3.cell? ⟨b5, 0, none⟩ = some (.slice sa S.length sc) := hD.out.cell 0 0 rfl rfl
    have x1 : W3.cell? ⟨b5, 1, none⟩ = some (.slice wa L.length wk) := hD.out.cell 0 1 rfl rfl
    by_cases gS : (S.length : Int) > 25
    · go_wp2_with fail
      refine (HW.out _).mono ?_
      rintro e VZ ⟨rfl, hb⟩
      have hZ := Lib.hid (hD.out.call hb)
      clear hb
      go_wp2
      go_ret
      exact ⟨rfl, hZ.out.be⟩
    by_cases gL : (L.length : Int) > 60
    · go_wp2_with fail
      refine (HW.out _).mono ?_
      rintro e VZ ⟨rfl, hb⟩
      have hZ := Lib.hid (hD.out.call hb)
      clear hb
      go_wp2
      go_ret
      exact ⟨rfl, hZ.out.be⟩
    go_wp2_with fail
    refine (HW.out _).mono ?_
    rintro e VZ ⟨rfl, hb⟩
    have hZ := Lib.hid (hD.out.call hb)
    clear hb
    go_wp2
    go_ret
    exact ⟨rfl, hZ.out.be⟩
  rw [h1] at HFW
  have i0 : (0 : Int) ≤ (k : Int) := by omega
  have i1 : (k : Int) < (L.length : Int) := by omega
  have ik : ¬ (k : Int) < 0 := by omega
  have HI := Lib.hid h2
  clear h1 h2
  go_wp2_with fail
  refine (HFW.out _ hC.out.be).mono ?_
  rintro e W3 ⟨rfl, hb⟩
  have hD := Lib.hid (hC.out.call hb)
  clear hb hC x0 x1 HFW
  have x0 : W3.cell? ⟨b5, 0, none⟩ = some (.slice sa S.length sc) := hD.out.cell 0 0 rfl rfl
  have x1 : W3.cell? ⟨b5, 1, none⟩ = some (.slice wa L.length wk) := hD.out.cell 0 1 rfl rfl
  by_cases gS : (S.length : Int) > 25
  · go_wp2_with fail
    refine (HW.out _).mono ?_
    rintro e VZ ⟨rfl, hb⟩
    have hZ := Lib.hid (hD.out.call hb)
    clear hb
    go_wp2
    go_ret
    exact ⟨rfl, hZ.out.be⟩
  by_cases gL : (L.length : Int) > 60
  · go_wp2_with fail
    refine (HW.out _).mono ?_
    rintro e VZ ⟨rfl, hb⟩
    have hZ := Lib.hid (hD.out.call hb)
    clear hb
    go_wp2
    go_ret
    exact ⟨rfl, hZ.out.be⟩
  by_cases gC : (cuts.length : Int) > 12
  · go_wp2_with fail
    refine (HW.out _).mono ?_
    rintro e VZ ⟨rfl, hb⟩
    have hZ := Lib.hid (hD.out.call hb)
    clear hb
    go_wp2
    go_ret
    exact ⟨rfl, hZ.out.be⟩
  cases hp : planB S L
  · rw [hp] at HRV
    clear hp
    go_wp2_with fail
    refine (HRV.out _ hD.out.be).mono ?_
    rintro e W4 ⟨rfl, hb⟩
    have hE := Lib.hid (hD.out.call hb)
    clear hb hD x0 x1
    go_wp2_with fail
    refine (HW.out _).mono ?_
    rintro e VZ ⟨rfl, hb⟩
    have hZ := Lib.hid (hE.out.call hb)
    clear hb
    go_wp2
    go_ret
    exact ⟨rfl, hZ.out.be⟩
  rw [hp] at HRV
  go_wp2_with fail
  refine (HRV.out _ hD.out.be).mono ?_
  rintro e W4 ⟨rfl, hb⟩
  have hE := Lib.hid (hD.out.call hb)
  clear hb hD x0 x1 HRV
  have HIA := Lib.hid (fun W => In_any rate 0 1000000 W)
  cases hr : inB rate 0 1000000
  · rw [hr] at HIA
    clear hr hp
    go_wp2_with ((with_reducible refine (HIA.out _).mono ?_); rintro e w1 ⟨rfl, rfl⟩)
    go_wp2_with fail
    refine (HW.out _).mono ?_
    rintro e VZ ⟨rfl, hb⟩
    have hZ := Lib.hid (hE.out.call hb)
    clear hb
    go_wp2
    go_ret
    exact ⟨rfl, hZ.out.be⟩
  rw [hr] at HIA
  obtain ⟨s', -, hs', hwb'⟩ := plan_wall hk hp
  rcases find_idx (p := isS L[k].sheet) (l := S) with ⟨-, hn2⟩ | ⟨k2, hk2, hi2, hf2, -⟩
  · rw [hs'] at hn2; cases hn2
  rw [hf2] at hs'
  cases hs'
  have hsB := plan_sheet hp (List.getElem_mem hk2)
  have HRD := Lib.hid (sheet_rood hsB)
  have hwo := wall_ops hwb'
  have hrr := inB_iff.1 hr
  have HR0 := Lib.hid (fun W (h : Below w.heap.size w W) => ref0_any W sa wa S L sc wk (HS.out.below h) (HL.out.below h) hk hk2 hi2)
  have HSP := Lib.hid (show ∀ W, Below w.heap.size w W → Sx 1 W S[k2].ha S[k2].hn S[k2].hc (L1 S[k2].hs) ∧ S[k2].name.size ≤ maxLen ∧ 0 ≤ S[k2].cope from fun W h => ⟨(HS.out.hts _ (List.getElem_mem hk2)).below h, HS.out.nam _ (List.getElem_mem hk2), HS.out.cop _ (List.getElem_mem hk2)⟩)
  have HOX := Lib.hid (fun W (h : Below w.heap.size w W) => (HL.out.opn _ (List.getElem_mem hk)).below h)
  have HOK := Lib.hid (HL.out.knd _ (List.getElem_mem hk))
  have HSN := Lib.hid (show S[k2].hn ≤ 1000 from by have := sheet_small hsB; omega)
  obtain ⟨g1', o1, rfl⟩ := HL.out.row.addr (by omega)
  have HRW := Lib.hid (fun W (hW : Below w.heap.size w W) => (HL.out.row.below hW).range (f := cWa) (fun _ => rfl) hk)
  clear hi2 hf2 hr hp HI
  have HSB := Lib.hid hsB
  have HWB := Lib.hid hwb'
  clear hsB hwb'
  generalize L[k] = x at *
  generalize S[k2] = s at *
  obtain ⟨hlen, hon, hop⟩ := hwo
  have HOP := Lib.hid hop
  clear hop
  have hxn := (HOX.out w (Below.refl _ _)).nO
  rw [hxn] at hon
  have HPO := Lib.hid (show ∀ W g, Below w.heap.size w W → Sx 20 W (some ⟨g, 0, none⟩) 1 1 (cS s) → Calls Tryz.prog 18 #[.agg #[.slice (some ⟨g, 0, none⟩) 1 1, .slice none 0 0], .int .i64 x.len, .slice x.oa x.ops.length x.oc] W (RetOne W s ⟨⟨#[119, 97, 108, 108]⟩, s.name, x.len, x.oa, x.ops.length, x.oc, x.ops⟩) from fun W g h hg => by
    have hq := HSP.out W h
    have := planOf_any W (some ⟨g, 0, none⟩) 1 s (.slice none 0 0) x.len x.oa x.on x.oc x.ops ⟨by simpa [LS] using hg, fun t ht => by rw [List.mem_singleton.1 ht]; exact hq.1, fun t ht => by rw [List.mem_singleton.1 ht]; exact hq.2.1, fun t ht => by rw [List.mem_singleton.1 ht]; exact hq.2.2⟩ (HOX.out W h) HOK.out HSN.out (by omega)
    rwa [hxn] at this)
  rw [hxn] at HOX
  obtain ⟨f, hf⟩ : ∃ f, payS (ann rate) s.rood x.ops [p0, p1, p2, p3] = f := ⟨_, rfl⟩
  obtain ⟨f0, hf0⟩ : ∃ f, payS (ann rate) s.rood x.ops [0, 0, 0, 0] = f := ⟨_, rfl⟩
  obtain ⟨ST, hST⟩ : ∃ ST, cutSt x.len 0 cuts = ST := ⟨_, rfl⟩
  obtain ⟨m, hm⟩ : ∃ m, ST.length = m := ⟨_, rfl⟩
  have hm13 : 1 ≤ m ∧ m ≤ 13 := by have := cutSt_pos x.len cuts 0; rw [hST, hm] at this; omega
  have HPY := Lib.hid (show ∀ W ta ma tc mc T M b d b' d' q0 q1 q2 q3 st n2 X m2, priceB [q0, q1, q2, q3] = true → payOk 1 x.len 0 st = true → st.length ≤ 1000 → st.map (payS (ann rate) s.rood x.ops [q0, q1, q2, q3]) = X → X.length = m2 → T.map nS = [s].map nS → M.map nW = [⟨⟨#[119, 97, 108, 108]⟩, s.name, x.len, x.oa, x.ops.length, x.oc, x.ops⟩].map nW → Shts W ta 1 tc T ∧ Wals W ma 1 mc M → Sx 3 W b 1 d (LW (ann rate)) → Sx 3 W b' n2 d' (L3 st) →
      Calls Tryz.prog 7 #[.agg #[.slice ta 1 tc, .slice ma 1 mc], .string ⟨#[119, 97, 108, 108]⟩, .slice b 1 d, .slice b' n2 d', .agg #[.int .i64 q0, .int .i64 q1, .int .i64 q2, .int .i64 q3]] W (fun e w' => ∃ a c, e = .returned (.tuple #[.slice a m2 c, .int .i64 0]) ∧ Hid (w'.ownsRow W.heap.size 3 1 (.slice a m2 c) m2 (L1 X)) ∧ Below W.heap.size W w') from
    fun W ta ma tc mc T M b d b' d' q0 q1 q2 q3 st n2 X m2 hp1 hok hl2 hX hm2 hT hM hP h3 h4 => pay_one W ta ma tc mc T M hT hM hP.1 hP.2 HSB.out HWB.out rfl rfl rfl hxn.symm rfl b d hrr h3 b' n2 d' st h4 hl2 q0 q1 q2 q3 hp1 hok hX hm2)
  have HOKS := Lib.hid (show payOk 1 x.len 0 ST = true from by rw [← hST]; exact cutSt_ok x.len cuts 0 (by omega))
  have HOK1 := Lib.hid (show payOk 1 x.len 0 [(0, 0, x.len)] = true from cutSt_ok x.len [] 0 (by omega))
  have HZ0 := Lib.hid (show priceB [0, 0, 0, 0] = true from by decide)
  have HOFF := Lib.hid (show -((m : Int) + 1) ≤ 2 * (lsum (ST.map f) - f (0, 0, x.len)) ∧ 2 * (lsum (ST.map f) - f (0, 0, x.len)) ≤ (m : Int) + 1 from by
    have := covers_off rate (R := s.rood) (by have := HRD.out; omega) x.ops [p0, p1, p2, p3] (len := x.len) (by omega) cuts
    rw [hf, hST, hm] at this
    exact this)
  have HEXT := Lib.hid (show lsum (ST.map f) - lsum (ST.map f0) = sumBy (fun o => prAt [p0, p1, p2, p3] o.kind) x.ops from by
    have h1 := covers_sum rate s.rood x.ops [p0, p1, p2, p3] (len := x.len) (by omega) cuts
    have h2 := covers_sum rate s.rood x.ops [0, 0, 0, 0] (len := x.len) (by omega) cuts
    rw [hf, hST] at h1
    rw [hf0, hST, opPay_0] at h2
    rw [h1, h2, opPay_all [p0, p1, p2, p3] (fun o ho => (HOP.out o ho).2)]
    omega)
  have HFB := Lib.hid (show priceB [p0, p1, p2, p3] = true → ∀ z ∈ ST, 0 ≤ f z ∧ f z ≤ 400000000000 from fun hp z hz => by
    rw [← hf]
    rw [← hST] at hz
    exact payS_bd hrr HRD.out hp (by omega) hlen (cutSt_zero _ _ _ z hz) (cutSt_in _ _ _ (by omega) (by omega) z hz))
  have HF1 := Lib.hid (show priceB [p0, p1, p2, p3] = true → 0 ≤ f (0, 0, x.len) ∧ f (0, 0, x.len) ≤ 400000000000 from fun hp => by
    rw [← hf]
    exact payS_bd hrr HRD.out hp (by omega) hlen rfl (by dsimp only; omega))
  have HF0 := Lib.hid (show ∀ z ∈ ST, 0 ≤ f0 z ∧ f0 z ≤ 400000000000 from fun z hz => by
    rw [← hf0]
    rw [← hST] at hz
    exact payS_bd hrr HRD.out HZ0.out (by omega) hlen (cutSt_zero _ _ _ z hz) (cutSt_in _ _ _ (by omega) (by omega) z hz))
  have HFE := Lib.hid hf
  have HF0E := Lib.hid hf0
  have HSTE := Lib.hid hST
  have HME := Lib.hid hm
  clear hf hf0 hST hm HSP HOK HSN HSB HWB HRD hk2
  obtain ⟨U13, hU13⟩ : ∃ U, aW x = U := ⟨_, rfl⟩
  obtain ⟨A13, hA13⟩ : ∃ A, (cWa x).toArray = A := ⟨_, rfl⟩
  have HU13 := Lib.hid (show Value.agg (cWa x).toArray = U13 from hU13)
  have HUA := Lib.hid (show U13 = Value.agg A13 from by rw [← hU13, ← hA13]; rfl)
  have HAS := Lib.hid (show A13.all (·.oneCell') = true from by rw [← hA13]; exact cWa_one _)
  have HAZ := Lib.hid (show A13.size = 4 from by rw [← hA13]; rfl)
  have K2 := Lib.hid (show A13[2]? = some (.int .i64 x.len) by rw [← hA13]; rfl)
  have K3 := Lib.hid (show A13[3]? = some (.slice x.oa x.ops.length x.oc) by rw [← hA13, ← hxn]; rfl)
  clear hU13 hA13 hxn
  go_wp2_with ((with_reducible refine (HIA.out _).mono ?_); rintro e w1 ⟨rfl, rfl⟩)
  go_loopw [12] (fun iv wr => ∃ k : Nat, k ≤ 4 ∧ iv = .int .i64 k ∧ Hid (([p0, p1, p2, p3].take k).all (fun p => inB p 0 1000000) = true) ∧ Hid (Sy w wr [(b5, #[.slice sa S.length sc, .slice (some ⟨g1', o1, none⟩) L.length wk], 25), (b9, #[.int .i64 p0, .int .i64 p1, .int .i64 p2, .int .i64 p3], 28)] [] [])) (fun iv _ => 4 - (intOf iv).toNat)
  case atStart => exact ⟨0, Nat.zero_le _, rfl, Lib.hid rfl, hE⟩
  case round =>
    clear hE
    obtain ⟨j, hj, rfl, HAL, hE⟩ := hrel
    by_cases hlt : j < 4
    · obtain ⟨z, hz, ht⟩ := pr_at p0 p1 p2 p3 hlt
      have HTK := Lib.hid ht
      have j0 : (0 : Int) ≤ (j : Int) := by omega
      have j1 : (j : Int) < 4 := by omega
      have y0 : wr.cell? ⟨b9, j, none⟩ = some (.int .i64 z) := by
        obtain rfl | rfl | rfl | rfl : j = 0 ∨ j = 1 ∨ j = 2 ∨ j = 3 := by omega
        · cases hz; exact hE.out.cell 1 0 rfl rfl
        · cases hz; exact hE.out.cell 1 1 rfl rfl
        · cases hz; exact hE.out.cell 1 2 rfl rfl
        · cases hz; exact hE.out.cell 1 3 rfl rfl
      have HIZ := Lib.hid (fun W => In_any z 0 1000000 W)
      clear hz ht
      cases hin : inB z 0 1000000
      · rw [hin] at HIZ
        clear hin
        go_wp2_with ((with_reducible refine (HIZ.out _).mono ?_); rintro e w1 ⟨rfl, rfl⟩)
        go_wp2_with fail
        refine (HW.out _).mono ?_
        rintro e VZ ⟨rfl, hb⟩
        have hZ := Lib.hid (hE.out.call hb)
        clear hb
        go_wp2
        go_ret
        exact ⟨rfl, hZ.out.be⟩
      · rw [hin] at HIZ HTK
        clear hin
        go_wp2_with ((with_reducible refine (HIZ.out _).mono ?_); rintro e w1 ⟨rfl, rfl⟩)
        go_roundw
        case rel => exact ⟨j + 1, by omega, by go_num, Lib.hid (by rw [HTK.out, HAL.out]; rfl), hE⟩
        case measure => simp [intOf]; omega
    · obtain rfl : j = 4 := by omega
      have HPB := Lib.hid (show priceB [p0, p1, p2, p3] = true from HAL.out)
      clear HAL hlt hj HIA
      have hrw := HRW.out _ hE.out.be
      have HRC := Lib.hid hrw
      have x1 : wr.cell? ⟨b5, 1, none⟩ = some (.slice (some ⟨g1', o1, none⟩) L.length wk) := hE.out.cell 0 1 rfl rfl
      clear hrw
      go_upto_region 9 with fail
      go_upto_region 10 with (first | (refine wpList_ld (o := ⟨some 78, _, _, _, _, _⟩) rfl _ _ rfl _ _ rfl (cWa x) _ HRC.out Tryz.underlying51 rfl info_RWall U13 HU13.out ?_; (try simp only [Act.put, List.setIfInBounds_toArray, List.set_cons_zero, List.set_cons_succ])) | (refine wpList_al (o := ⟨some 13, _, _, _, _, _⟩) rfl hE.out _ rfl zW zero_RWall ?_; intro b13 V7 h7; have hF1 := Lib.hid h7; clear h7 hE; (try simp only [Act.put, List.setIfInBounds_toArray, List.set_cons_zero, List.set_cons_succ])) | (refine wpList_st (o := ⟨none, _, _, _, _, _⟩) rfl hF1.out 2 rfl _ _ _ rfl rfl A13 HUA.out (by rw [HAZ.out]; exact info_RWall) (by rw [HAZ.out]; rfl) HAS.out ?_; intro V9 h9; have hF2 := Lib.hid h9; clear h9 hF1) | fail)
      clear x1 HRC
      have hF3 := Lib.hid ((hF2.out.onew V9.heap.size #[.string ⟨#[97, 110, 110]⟩, .int .i64 1, .int .i64 rate] 57 3 1 rfl (by omega) rfl))
      clear hF2
      go_upto_region 11 with fail
      obtain ⟨gA, hgA⟩ : ∃ g, V9.heap.size = g := ⟨_, rfl⟩
      rw [hgA] at hF3 ⊢
      refine wp_geny hF3.out ?_
      intro W5 hc
      have hG : Hid (Sy w W5 [(b5, #[.slice sa S.length sc, .slice (some ⟨g1', o1, none⟩) L.length wk], 25), (b9, #[.int .i64 p0, .int .i64 p1, .int .i64 p2, .int .i64 p3], 28), (b13, A13, 51)] [⟨.slice (some ⟨gA, 0, none⟩) 1 1, 57, 3, 1, LW (ann rate)⟩, ⟨.slice none 0 0, 59, 3, 0, L3 []⟩] []) := Lib.hid (hc.onil _ _)
      clear hc hF3 hgA
      go_wp2
      go_loopw [17, 16, 15] (fun iv av ov wr => ∃ (k n : Nat) (y : Int) (a : Option Addr) (c : Nat) (acc : List I3), k ≤ cuts.length ∧ n ≤ k ∧ iv = .int .i64 k ∧ av = .int .i64 y ∧ ov = .slice a n c ∧ 0 ≤ y ∧ y < x.len ∧ Hid (acc ++ cutSt x.len y (cuts.drop k) = ST ∧ acc.length = n) ∧ Hid (Sy w wr [(b5, #[.slice sa S.length sc, .slice (some ⟨g1', o1, none⟩) L.length wk], 25), (b9, #[.int .i64 p0, .int .i64 p1, .int .i64 p2, .int .i64 p3], 28), (b13, A13, 51)] [⟨.slice (some ⟨gA, 0, none⟩) 1 1, 57, 3, 1, LW (ann rate)⟩, ⟨.slice a n c, 59, 3, n, L3 acc⟩] [])) (fun iv _ _ _ => cuts.length - (intOf iv).toNat)
      case atStart => exact ⟨0, 0, 0, none, 0, [], Nat.zero_le _, Nat.zero_le _, rfl, rfl, rfl, by omega, by omega, Lib.hid ⟨HSTE.out, rfl⟩, hG⟩
      case round =>
        clear hG
        obtain ⟨i, n, y, a, c, acc, hi, hni, rfl, rfl, rfl, hy0, hy1, HAC, hG⟩ := hrel
        have k2 : wr.cell? ⟨b13, 2, none⟩ = some (.int .i64 x.len) := hG.out.cell 2 2 rfl K2.out
        by_cases hlt : i < cuts.length
        · obtain ⟨g2, o2, rfl⟩ := H1.out.addr (by omega)
          have z0 := (H1.out.below hG.out.be).at1 hlt
          have HDR := Lib.hid (List.drop_eq_getElem_cons hlt)
          have j0 : (0 : Int) ≤ (i : Int) := by omega
          have j1 : (i : Int) < (cuts.length : Int) := by omega
          have HZA := Lib.hid (fun W (h : Below w.heap.size w W) => (H1.out.below h).at1 hlt)
          generalize cuts[i] = z at *
          go_upto_region 16 with fail
          by_cases q1 : y < z
          · by_cases q2 : z < x.len
            · have d1 := decide_eq_true q1
              have d2 := decide_eq_true q2
              have HNX := Lib.hid (show (acc ++ [(0, y, z)]) ++ cutSt x.len z (cuts.drop (i + 1)) = ST ∧ (acc ++ [(0, y, z)]).length = n + 1 from by
                have h := HAC.out
                rw [HDR.out, cutSt, if_pos ⟨q1, q2⟩] at h
                exact ⟨by rw [List.append_assoc]; exact h.1, by rw [List.length_append, h.2]; rfl⟩)
              go_quiet (fail)
              have hG1 := Lib.hid (hG.out.call (below_dN (Below.refl _ _) nq))
              clear z0 k2 hG
              go_upto_region 17 with fail
              refine wp_geny hG1.out ?_
              intro W6 hc
              have hG2 : Hid (Sy w W6 [(b5, #[.slice sa S.length sc, .slice (some ⟨g1', o1, none⟩) L.length wk], 25), (b9, #[.int .i64 p0, .int .i64 p1, .int .i64 p2, .int .i64 p3], 28), (b13, A13, 51)] [⟨.slice (some ⟨gA, 0, none⟩) 1 1, 57, 3, 1, LW (ann rate)⟩, ⟨.slice a n c, 59, 3, n, L3 acc⟩] []) := Lib.hid hc
              clear hc hG1
              have z0 := HZA.out _ hG2.out.be
              go_upto_region 18 with (refine wpList_append_sy (o := ⟨some 111, _, _, _, _, _⟩) rfl (hG2.out.onew W6.heap.size #[.int .i64 0, .int .i64 y, .int .i64 z] 59 3 1 rfl (by omega) rfl) 1 2 rfl rfl _ _ _ rfl und_Stint3 info_Stint3 rfl (by omega) rfl rfl (by intro u hu; simp at hu; rcases hu with rfl | rfl | rfl <;> rfl) (by omega) (by omega) ?_; intro a3 c3 V3 hV3; have hJ := Lib.hid hV3; clear hV3 hG2 z0)
              have hK := Lib.hid (hJ.out.thin (List.Sublist.refl _) (os' := [⟨.slice (some ⟨gA, 0, none⟩) 1 1, 57, 3, 1, LW (ann rate)⟩, ⟨.slice a3 (n + 1) c3, 59, 3, n + 1, L3 (acc ++ [(0, y, z)])⟩]) (by rw [L3_append]; exact List.Sublist.cons_cons _ (List.Sublist.cons_cons _ (List.nil_sublist _))))
              have z0 := HZA.out _ hJ.out.be
              clear hJ
              go_wp2
              go_roundw
              case rel => exact ⟨i + 1, n + 1, z, a3, c3, acc ++ [(0, y, z)], by omega, by omega, by go_num, rfl, rfl, by omega, q2, HNX, hK⟩
              case measure => simp [intOf]; omega
            · have d1 := decide_eq_true q1
              have d2 := decide_eq_false q2
              have HNX := Lib.hid (show acc ++ cutSt x.len y (cuts.drop (i + 1)) = ST ∧ acc.length = n from by
                have h := HAC.out
                rw [HDR.out, cutSt, if_neg (fun h => q2 h.2)] at h
                exact h)
              go_quiet (fail)
              have hG1 := Lib.hid (hG.out.call (below_dN (Below.refl _ _) nq))
              go_wp2
              go_roundw
              case rel => exact ⟨i + 1, n, y, a, c, acc, by omega, by omega, by go_num, rfl, rfl, hy0, hy1, HNX, hG1⟩
              case measure => simp [intOf]; omega
          · have d1 := decide_eq_false q1
            have HNX := Lib.hid (show acc ++ cutSt x.len y (cuts.drop (i + 1)) = ST ∧ acc.length = n from by
              have h := HAC.out
              rw [HDR.out, cutSt, if_neg (fun h => q1 h.1)] at h
              exact h)
            go_quiet (fail)
            have hG1 := Lib.hid (hG.out.call (below_dN (Below.refl _ _) nq))
            go_wp2
            go_roundw
            case rel => exact ⟨i + 1, n, y, a, c, acc, by omega, by omega, by go_num, rfl, rfl, hy0, hy1, HNX, hG1⟩
            case measure => simp [intOf]; omega
        · obtain rfl : i = cuts.length := by omega
          have HAC2 := Lib.hid (show acc ++ [(0, y, x.len)] = ST ∧ n + 1 = m from by
            have h := HAC.out
            rw [List.drop_length, cutSt] at h
            refine ⟨h.1, ?_⟩
            rw [← HME.out, ← h.1, List.length_append, h.2]; rfl)
          clear HAC
          go_upto_region 19 with fail
          go_upto_region 20 with (refine wpList_append_sy (o := ⟨some 122, _, _, _, _, _⟩) rfl (hG.out.onew wr.heap.size #[.int .i64 0, .int .i64 y, .int .i64 x.len] 59 3 1 rfl (by omega) rfl) 1 2 rfl rfl _ _ _ rfl und_Stint3 info_Stint3 rfl (by omega) rfl rfl (by intro u hu; simp at hu; rcases hu with rfl | rfl | rfl <;> rfl) (by omega) (by omega) ?_; intro a3 c3 V3 hV3; have hJ := Lib.hid hV3; clear hV3 hG k2)
          have hK0 := Lib.hid (hJ.out.thin (List.Sublist.refl _) (os' := [⟨.slice (some ⟨gA, 0, none⟩) 1 1, 57, 3, 1, LW (ann rate)⟩, ⟨.slice a3 (n + 1) c3, 59, 3, n + 1, L3 (acc ++ [(0, y, x.len)])⟩]) (by rw [L3_append]; exact List.Sublist.cons_cons _ (List.Sublist.cons_cons _ (List.nil_sublist _))))
          clear hJ
          rw [HAC2.out.1, HAC2.out.2] at hK0
          rw [HAC2.out.2]
          refine wp_geny hK0.out ?_
          intro W6 hc
          have hK : Hid (Sy w W6 [(b5, #[.slice sa S.length sc, .slice (some ⟨g1', o1, none⟩) L.length wk], 25), (b9, #[.int .i64 p0, .int .i64 p1, .int .i64 p2, .int .i64 p3], 28), (b13, A13, 51)] [⟨.slice (some ⟨gA, 0, none⟩) 1 1, 57, 3, 1, LW (ann rate)⟩, ⟨.slice a3 m c3, 59, 3, m, L3 ST⟩] []) := Lib.hid hc
          clear hc hK0 HAC2 hy0 hy1 hi hni hlt
          go_cut [18] (fun pv wx => ∃ (b18 : Nat) (a6 a7 : Option Addr) (c6 c7 : Nat) (T : List Sht) (M : List Wal), pv = .pointer (some ⟨b18, 0, none⟩) ∧ Hid (T.map nS = [s].map nS) ∧ Hid (M.map nW = [⟨⟨#[119, 97, 108, 108]⟩, s.name, x.len, x.oa, x.ops.length, x.oc, x.ops⟩].map nW) ∧ Hid (Sy w wx [(b5, #[.slice sa S.length sc, .slice (some ⟨g1', o1, none⟩) L.length wk], 25), (b9, #[.int .i64 p0, .int .i64 p1, .int .i64 p2, .int .i64 p3], 28), (b13, A13, 51), (b18, #[.slice a6 1 c6, .slice a7 1 c7], 38)] [⟨.slice (some ⟨gA, 0, none⟩) 1 1, 57, 3, 1, LW (ann rate)⟩, ⟨.slice a3 m c3, 59, 3, m, L3 ST⟩] [fun V => Shts V a6 1 c6 T ∧ Wals V a7 1 c7 M]))
          case first =>
            clear HPY HOKS HOK1 HOFF HEXT HFB HF1 HF0 HFE HF0E HSTE HME
            refine wp_region_noPanic ?_
            refine wp_region_held_drew (S := (fun w' => w'.cell? ⟨b5, 0, none⟩ = some (.slice sa S.length sc) ∧ w'.cell? ⟨b5, 1, none⟩ = some (.slice (some ⟨g1', o1, none⟩) L.length wk) ∧ w'.cell? ⟨b13, 2, none⟩ = some (.int .i64 x.len) ∧ w'.cell? ⟨b13, 3, none⟩ = some (.slice x.oa x.ops.length x.oc) ∧ True)) (by kernel_rfl) ⟨hK.out.drew.cell 0 0 rfl rfl, hK.out.drew.cell 0 1 rfl rfl, (hK.out.drew.cell 2 2 rfl K2.out), (hK.out.drew.cell 2 3 rfl K3.out), trivial⟩ (fun hH => ?_)
            refine wpAnyH_geny (show Sy w _ [(b5, #[.slice sa S.length sc, .slice (some ⟨g1', o1, none⟩) L.length wk], 25), (b9, #[.int .i64 p0, .int .i64 p1, .int .i64 p2, .int .i64 p3], 28), (b13, A13, 51)] [⟨.slice (some ⟨gA, 0, none⟩) 1 1, 57, 3, 1, LW (ann rate)⟩, ⟨.slice a3 m c3, 59, 3, m, L3 ST⟩] [] from hK.out.drew) hH ?_
            intro VK_0 hc hHK_0
            have hVK_0 := Lib.hid hc
            clear hc hH hK
            refine wpAnyH_take (i := 0) (oi := ⟨_, _, _, _, _, _⟩) (v := ?_) rfl (by kernel_rfl) (by kernel_rfl) (by kernel_rfl) (fun _ _ _ h => h) (Or.inl ⟨by rfl, ?_⟩) hHK_0 ?_
            rotate_left
            · intro wS hSw; (try dsimp only at hSw); go_simp; try with_reducible rfl
            try simp only [Act.put, List.setIfInBounds_toArray, List.set_cons_zero, List.set_cons_succ]
            refine wpAnyH_take (i := 1) (oi := ⟨_, _, _, _, _, _⟩) (v := ?_) rfl (by kernel_rfl) (by kernel_rfl) (by kernel_rfl) (fun _ _ _ h => h) (Or.inl ⟨by rfl, ?_⟩) hHK_0 ?_
            rotate_left
            · intro wS hSw; (try dsimp only at hSw); go_simp; try with_reducible rfl
            try simp only [Act.put, List.setIfInBounds_toArray, List.set_cons_zero, List.set_cons_succ]
            refine wpAnyH_take (i := 3) (oi := ⟨_, _, _, _, _, _⟩) (v := ?_) rfl (by kernel_rfl) (by kernel_rfl) (by kernel_rfl) (fun _ _ _ h => h) (Or.inl ⟨by rfl, ?_⟩) hHK_0 ?_
            rotate_left
            · intro wS hSw; (try dsimp only at hSw); go_simp; try with_reducible rfl
            try simp only [Act.put, List.setIfInBounds_toArray, List.set_cons_zero, List.set_cons_succ]
            refine wpAnyH_take (i := 4) (oi := ⟨_, _, _, _, _, _⟩) (v := ?_) rfl (by kernel_rfl) (by kernel_rfl) (by kernel_rfl) (fun _ _ _ h => h) (Or.inl ⟨by rfl, ?_⟩) hHK_0 ?_
            rotate_left
            · intro wS hSw; (try dsimp only at hSw); go_simp; try with_reducible rfl
            try simp only [Act.put, List.setIfInBounds_toArray, List.set_cons_zero, List.set_cons_succ]
            refine wpAnyH_take (i := 5) (oi := ⟨_, _, _, _, _, _⟩) (v := ?_) rfl (by kernel_rfl) (by kernel_rfl) (by kernel_rfl) (fun _ _ _ h => h) (Or.inl ⟨by rfl, ?_⟩) hHK_0 ?_
            rotate_left
            · intro wS hSw; (try dsimp only at hSw); go_simp; try with_reducible rfl
            try simp only [Act.put, List.setIfInBounds_toArray, List.set_cons_zero, List.set_cons_succ]
            refine wpAnyH_take (i := 6) (oi := ⟨_, _, _, _, _, _⟩) (v := ?_) rfl (by kernel_rfl) (by kernel_rfl) (by kernel_rfl) (fun _ _ _ h => h) (Or.inl ⟨by rfl, ?_⟩) hHK_0 ?_
            rotate_left
            · intro wS hSw; (try dsimp only at hSw); go_simp; try with_reducible rfl
            try simp only [Act.put, List.setIfInBounds_toArray, List.set_cons_zero, List.set_cons_succ]
            refine wpAnyH_ready (rs := [2, 8]) (by kernel_rfl) (by simp) ?_
            refine AllReadyH.cons (o := ⟨_, _, _, _, _, _⟩) rfl (fun Kq hKq => ?_) ?_
            · go_simp
              go_at_call 19
              refine (HR0.out _ hVK_0.out.be).mono ?_
              rintro e wT ⟨g7, rfl, hr, hb⟩
              (try go_wp2_with fail)
              refine stepY hKq (show Sy w _ [(b5, #[.slice sa S.length sc, .slice (some ⟨g1', o1, none⟩) L.length wk], 25), (b9, #[.int .i64 p0, .int .i64 p1, .int .i64 p2, .int .i64 p3], 28), (b13, A13, 51)] [⟨.slice (some ⟨gA, 0, none⟩) 1 1, 57, 3, 1, LW (ann rate)⟩, ⟨.slice a3 m c3, 59, 3, m, L3 ST⟩, ⟨.slice (some ⟨g7, 0, none⟩) 1 1, 53, 20, 1, cS s⟩] [] from (hVK_0.out.adopt hb hr.out)) (fun _ hX => ⟨hX.cell 0 0 rfl rfl, hX.cell 0 1 rfl rfl, (hX.cell 2 2 rfl K2.out), (hX.cell 2 3 rfl K3.out), trivial⟩) ?_
              intro VK_1 hc hHK_1
              have hVK_1 := Lib.hid hc
              clear hc hKq Kq hVK_0 hb hr hHK_0
              try simp only [Act.put, List.setIfInBounds_toArray, List.set_cons_zero, List.set_cons_succ]
              refine wpAnyH_ready (rs := [7, 8]) (by kernel_rfl) (by simp) ?_
              refine AllReadyH.cons (o := ⟨_, _, _, _, _, _⟩) rfl (fun Kq hKq => ?_) ?_
              · go_simp
                go_at_call 18
                refine (HPO.out _ _ hVK_1.out.be (hVK_1.out.osx 2 rfl)).mono ?_
                rintro e wT ⟨a6, a7, c6, c7, T, M, hT, hM, rfl, hP, hb⟩
                (try go_wp2_with fail)
                refine stepY hKq (show Sy w _ [(b5, #[.slice sa S.length sc, .slice (some ⟨g1', o1, none⟩) L.length wk], 25), (b9, #[.int .i64 p0, .int .i64 p1, .int .i64 p2, .int .i64 p3], 28), (b13, A13, 51)] [⟨.slice (some ⟨gA, 0, none⟩) 1 1, 57, 3, 1, LW (ann rate)⟩, ⟨.slice a3 m c3, 59, 3, m, L3 ST⟩, ⟨.slice (some ⟨g7, 0, none⟩) 1 1, 53, 20, 1, cS s⟩] [fun V => Shts V a6 1 c6 T ∧ Wals V a7 1 c7 M] from ((hVK_1.out.call hb).push (r := fun V => Shts V a6 1 c6 T ∧ Wals V a7 1 c7 M) (fun V hV => hP.out V (hVK_1.out.newer hV)))) (fun _ hX => ⟨hX.cell 0 0 rfl rfl, hX.cell 0 1 rfl rfl, (hX.cell 2 2 rfl K2.out), (hX.cell 2 3 rfl K3.out), trivial⟩) ?_
                intro VK_2 hc hHK_2
                have hVK_2 := Lib.hid hc
                clear hc hKq Kq hVK_1 hb hP hHK_1
                try simp only [Act.put, List.setIfInBounds_toArray, List.set_cons_zero, List.set_cons_succ]
                refine wpAnyH_ready (rs := [8]) (by kernel_rfl) (by simp) ?_
                refine AllReadyH.cons (o := ⟨_, _, _, _, _, _⟩) rfl (fun Kq hKq => ?_) AllReadyH.nil
                go_simp
                refine stepY hKq (show Sy w _ [(b5, #[.slice sa S.length sc, .slice (some ⟨g1', o1, none⟩) L.length wk], 25), (b9, #[.int .i64 p0, .int .i64 p1, .int .i64 p2, .int .i64 p3], 28), (b13, A13, 51), (VK_2.heap.size, #[.slice none 0 0, .slice none 0 0], 38)] [⟨.slice (some ⟨gA, 0, none⟩) 1 1, 57, 3, 1, LW (ann rate)⟩, ⟨.slice a3 m c3, 59, 3, m, L3 ST⟩, ⟨.slice (some ⟨g7, 0, none⟩) 1 1, 53, 20, 1, cS s⟩] [fun V => Shts V a6 1 c6 T ∧ Wals V a7 1 c7 M] from (hVK_2.out.al VK_2.heap.size #[.slice none 0 0, .slice none 0 0] 38 rfl)) (fun _ hX => ⟨hX.cell 0 0 rfl rfl, hX.cell 0 1 rfl rfl, (hX.cell 2 2 rfl K2.out), (hX.cell 2 3 rfl K3.out), trivial⟩) ?_
                intro VK_3 hc hHK_3
                have hVK_3 := Lib.hid hc
                clear hc hKq Kq hVK_2 hHK_2
                try simp only [Act.put, List.setIfInBounds_toArray, List.set_cons_zero, List.set_cons_succ]
                refine wpAnyH_ready (rs := [9]) (by kernel_rfl) (by simp) ?_
                refine AllReadyH.cons (o := ⟨_, _, _, _, _, _⟩) rfl (fun Kq hKq => ?_) AllReadyH.nil
                have cQ0 := hVK_3.out.cell 3 0 rfl rfl
                have fQ0 := hVK_3.out.free 3 0 rfl
                have cQ1 := hVK_3.out.cell 3 1 rfl rfl
                have fQ1 := hVK_3.out.free 3 1 rfl
                go_simp
                refine stepY hKq (show Sy w _ [(b5, #[.slice sa S.length sc, .slice (some ⟨g1', o1, none⟩) L.length wk], 25), (b9, #[.int .i64 p0, .int .i64 p1, .int .i64 p2, .int .i64 p3], 28), (b13, A13, 51), (VK_2.heap.size, #[.slice a6 1 c6, .slice a7 1 c7], 38)] [⟨.slice (some ⟨gA, 0, none⟩) 1 1, 57, 3, 1, LW (ann rate)⟩, ⟨.slice a3 m c3, 59, 3, m, L3 ST⟩, ⟨.slice (some ⟨g7, 0, none⟩) 1 1, 53, 20, 1, cS s⟩] [fun V => Shts V a6 1 c6 T ∧ Wals V a7 1 c7 M] from (hVK_3.out |>.set (j := 0) (v := .slice a6 1 c6) 3 rfl |>.set (j := 1) (v := .slice a7 1 c7) 3 rfl)) (fun _ hX => ⟨hX.cell 0 0 rfl rfl, hX.cell 0 1 rfl rfl, (hX.cell 2 2 rfl K2.out), (hX.cell 2 3 rfl K3.out), trivial⟩) ?_
                intro VK_4 hc hHK_4
                have hVK_4 := Lib.hid hc
                clear hc hKq Kq hVK_3 cQ0 fQ0 cQ1 fQ1 hHK_3
                try simp only [Act.put]
                refine wpAnyH_done (by kernel_rfl) ?_ _
                refine NoPanic.normal ?_
                go_wp2
                go_meet
                exact ⟨_, a6, a7, c6, c7, T, M, rfl, hT, hM, Lib.hid (hVK_4.out.thin (List.Sublist.refl _) (by exact List.Sublist.cons_cons _ (List.Sublist.cons_cons _ (List.nil_sublist _))))⟩
              refine AllReadyH.cons (o := ⟨_, _, _, _, _, _⟩) rfl (fun Kq hKq => ?_) ?_
              · go_simp
                refine stepY hKq (show Sy w _ [(b5, #[.slice sa S.length sc, .slice (some ⟨g1', o1, none⟩) L.length wk], 25), (b9, #[.int .i64 p0, .int .i64 p1, .int .i64 p2, .int .i64 p3], 28), (b13, A13, 51), (VK_1.heap.size, #[.slice none 0 0, .slice none 0 0], 38)] [⟨.slice (some ⟨gA, 0, none⟩) 1 1, 57, 3, 1, LW (ann rate)⟩, ⟨.slice a3 m c3, 59, 3, m, L3 ST⟩, ⟨.slice (some ⟨g7, 0, none⟩) 1 1, 53, 20, 1, cS s⟩] [] from (hVK_1.out.al VK_1.heap.size #[.slice none 0 0, .slice none 0 0] 38 rfl)) (fun _ hX => ⟨hX.cell 0 0 rfl rfl, hX.cell 0 1 rfl rfl, (hX.cell 2 2 rfl K2.out), (hX.cell 2 3 rfl K3.out), trivial⟩) ?_
                intro VK_2 hc hHK_2
                have hVK_2 := Lib.hid hc
                clear hc hKq Kq hVK_1 hHK_1
                try simp only [Act.put, List.setIfInBounds_toArray, List.set_cons_zero, List.set_cons_succ]
                refine wpAnyH_ready (rs := [7]) (by kernel_rfl) (by simp) ?_
                refine AllReadyH.cons (o := ⟨_, _, _, _, _, _⟩) rfl (fun Kq hKq => ?_) AllReadyH.nil
                go_simp
                go_at_call 18
                refine (HPO.out _ _ hVK_2.out.be (hVK_2.out.osx 2 rfl)).mono ?_
                rintro e wT ⟨a6, a7, c6, c7, T, M, hT, hM, rfl, hP, hb⟩
                (try go_wp2_with fail)
                refine stepY hKq (show Sy w _ [(b5, #[.slice sa S.length sc, .slice (some ⟨g1', o1, none⟩) L.length wk], 25), (b9, #[.int .i64 p0, .int .i64 p1, .int .i64 p2, .int .i64 p3], 28), (b13, A13, 51), (VK_1.heap.size, #[.slice none 0 0, .slice none 0 0], 38)] [⟨.slice (some ⟨gA, 0, none⟩) 1 1, 57, 3, 1, LW (ann rate)⟩, ⟨.slice a3 m c3, 59, 3, m, L3 ST⟩, ⟨.slice (some ⟨g7, 0, none⟩) 1 1, 53, 20, 1, cS s⟩] [fun V => Shts V a6 1 c6 T ∧ Wals V a7 1 c7 M] from ((hVK_2.out.call hb).push (r := fun V => Shts V a6 1 c6 T ∧ Wals V a7 1 c7 M) (fun V hV => hP.out V (hVK_2.out.newer hV)))) (fun _ hX => ⟨hX.cell 0 0 rfl rfl, hX.cell 0 1 rfl rfl, (hX.cell 2 2 rfl K2.out), (hX.cell 2 3 rfl K3.out), trivial⟩) ?_
                intro VK_3 hc hHK_3
                have hVK_3 := Lib.hid hc
                clear hc hKq Kq hVK_2 hb hP hHK_2
                try simp only [Act.put, List.setIfInBounds_toArray, List.set_cons_zero, List.set_cons_succ]
                refine wpAnyH_ready (rs := [9]) (by kernel_rfl) (by simp) ?_
                refine AllReadyH.cons (o := ⟨_, _, _, _, _, _⟩) rfl (fun Kq hKq => ?_) AllReadyH.nil
                have cQ0 := hVK_3.out.cell 3 0 rfl rfl
                have fQ0 := hVK_3.out.free 3 0 rfl
                have cQ1 := hVK_3.out.cell 3 1 rfl rfl
                have fQ1 := hVK_3.out.free 3 1 rfl
                go_simp
                refine stepY hKq (show Sy w _ [(b5, #[.slice sa S.length sc, .slice (some ⟨g1', o1, none⟩) L.length wk], 25), (b9, #[.int .i64 p0, .int .i64 p1, .int .i64 p2, .int .i64 p3], 28), (b13, A13, 51), (VK_1.heap.size, #[.slice a6 1 c6, .slice a7 1 c7], 38)] [⟨.slice (some ⟨gA, 0, none⟩) 1 1, 57, 3, 1, LW (ann rate)⟩, ⟨.slice a3 m c3, 59, 3, m, L3 ST⟩, ⟨.slice (some ⟨g7, 0, none⟩) 1 1, 53, 20, 1, cS s⟩] [fun V => Shts V a6 1 c6 T ∧ Wals V a7 1 c7 M] from (hVK_3.out |>.set (j := 0) (v := .slice a6 1 c6) 3 rfl |>.set (j := 1) (v := .slice a7 1 c7) 3 rfl)) (fun _ hX => ⟨hX.cell 0 0 rfl rfl, hX.cell 0 1 rfl rfl, (hX.cell 2 2 rfl K2.out), (hX.cell 2 3 rfl K3.out), trivial⟩) ?_
                intro VK_4 hc hHK_4
                have hVK_4 := Lib.hid hc
                clear hc hKq Kq hVK_3 cQ0 fQ0 cQ1 fQ1 hHK_3
                try simp only [Act.put]
                refine wpAnyH_done (by kernel_rfl) ?_ _
                refine NoPanic.normal ?_
                go_wp2
                go_meet
                exact ⟨_, a6, a7, c6, c7, T, M, rfl, hT, hM, Lib.hid (hVK_4.out.thin (List.Sublist.refl _) (by exact List.Sublist.cons_cons _ (List.Sublist.cons_cons _ (List.nil_sublist _))))⟩
              exact AllReadyH.nil
            refine AllReadyH.cons (o := ⟨_, _, _, _, _, _⟩) rfl (fun Kq hKq => ?_) ?_
            · go_simp
              refine stepY hKq (show Sy w _ [(b5, #[.slice sa S.length sc, .slice (some ⟨g1', o1, none⟩) L.length wk], 25), (b9, #[.int .i64 p0, .int .i64 p1, .int .i64 p2, .int .i64 p3], 28), (b13, A13, 51), (VK_0.heap.size, #[.slice none 0 0, .slice none 0 0], 38)] [⟨.slice (some ⟨gA, 0, none⟩) 1 1, 57, 3, 1, LW (ann rate)⟩, ⟨.slice a3 m c3, 59, 3, m, L3 ST⟩] [] from (hVK_0.out.al VK_0.heap.size #[.slice none 0 0, .slice none 0 0] 38 rfl)) (fun _ hX => ⟨hX.cell 0 0 rfl rfl, hX.cell 0 1 rfl rfl, (hX.cell 2 2 rfl K2.out), (hX.cell 2 3 rfl K3.out), trivial⟩) ?_
              intro VK_1 hc hHK_1
              have hVK_1 := Lib.hid hc
              clear hc hKq Kq hVK_0 hHK_0
              try simp only [Act.put, List.setIfInBounds_toArray, List.set_cons_zero, List.set_cons_succ]
              refine wpAnyH_ready (rs := [2]) (by kernel_rfl) (by simp) ?_
              refine AllReadyH.cons (o := ⟨_, _, _, _, _, _⟩) rfl (fun Kq hKq => ?_) AllReadyH.nil
              go_simp
              go_at_call 19
              refine (HR0.out _ hVK_1.out.be).mono ?_
              rintro e wT ⟨g7, rfl, hr, hb⟩
              (try go_wp2_with fail)
              refine stepY hKq (show Sy w _ [(b5, #[.slice sa S.length sc, .slice (some ⟨g1', o1, none⟩) L.length wk], 25), (b9, #[.int .i64 p0, .int .i64 p1, .int .i64 p2, .int .i64 p3], 28), (b13, A13, 51), (VK_0.heap.size, #[.slice none 0 0, .slice none 0 0], 38)] [⟨.slice (some ⟨gA, 0, none⟩) 1 1, 57, 3, 1, LW (ann rate)⟩, ⟨.slice a3 m c3, 59, 3, m, L3 ST⟩, ⟨.slice (some ⟨g7, 0, none⟩) 1 1, 53, 20, 1, cS s⟩] [] from (hVK_1.out.adopt hb hr.out)) (fun _ hX => ⟨hX.cell 0 0 rfl rfl, hX.cell 0 1 rfl rfl, (hX.cell 2 2 rfl K2.out), (hX.cell 2 3 rfl K3.out), trivial⟩) ?_
              intro VK_2 hc hHK_2
              have hVK_2 := Lib.hid hc
              clear hc hKq Kq hVK_1 hb hr hHK_1
              try simp only [Act.put, List.setIfInBounds_toArray, List.set_cons_zero, List.set_cons_succ]
              refine wpAnyH_ready (rs := [7]) (by kernel_rfl) (by simp) ?_
              refine AllReadyH.cons (o := ⟨_, _, _, _, _, _⟩) rfl (fun Kq hKq => ?_) AllReadyH.nil
              go_simp
              go_at_call 18
              refine (HPO.out _ _ hVK_2.out.be (hVK_2.out.osx 2 rfl)).mono ?_
              rintro e wT ⟨a6, a7, c6, c7, T, M, hT, hM, rfl, hP, hb⟩
              (try go_wp2_with fail)
              refine stepY hKq (show Sy w _ [(b5, #[.slice sa S.length sc, .slice (some ⟨g1', o1, none⟩) L.length wk], 25), (b9, #[.int .i64 p0, .int .i64 p1, .int .i64 p2, .int .i64 p3], 28), (b13, A13, 51), (VK_0.heap.size, #[.slice none 0 0, .slice none 0 0], 38)] [⟨.slice (some ⟨gA, 0, none⟩) 1 1, 57, 3, 1, LW (ann rate)⟩, ⟨.slice a3 m c3, 59, 3, m, L3 ST⟩, ⟨.slice (some ⟨g7, 0, none⟩) 1 1, 53, 20, 1, cS s⟩] [fun V => Shts V a6 1 c6 T ∧ Wals V a7 1 c7 M] from ((hVK_2.out.call hb).push (r := fun V => Shts V a6 1 c6 T ∧ Wals V a7 1 c7 M) (fun V hV => hP.out V (hVK_2.out.newer hV)))) (fun _ hX => ⟨hX.cell 0 0 rfl rfl, hX.cell 0 1 rfl rfl, (hX.cell 2 2 rfl K2.out), (hX.cell 2 3 rfl K3.out), trivial⟩) ?_
              intro VK_3 hc hHK_3
              have hVK_3 := Lib.hid hc
              clear hc hKq Kq hVK_2 hb hP hHK_2
              try simp only [Act.put, List.setIfInBounds_toArray, List.set_cons_zero, List.set_cons_succ]
              refine wpAnyH_ready (rs := [9]) (by kernel_rfl) (by simp) ?_
              refine AllReadyH.cons (o := ⟨_, _, _, _, _, _⟩) rfl (fun Kq hKq => ?_) AllReadyH.nil
              have cQ0 := hVK_3.out.cell 3 0 rfl rfl
              have fQ0 := hVK_3.out.free 3 0 rfl
              have cQ1 := hVK_3.out.cell 3 1 rfl rfl
              have fQ1 := hVK_3.out.free 3 1 rfl
              go_simp
              refine stepY hKq (show Sy w _ [(b5, #[.slice sa S.length sc, .slice (some ⟨g1', o1, none⟩) L.length wk], 25), (b9, #[.int .i64 p0, .int .i64 p1, .int .i64 p2, .int .i64 p3], 28), (b13, A13, 51), (VK_0.heap.size, #[.slice a6 1 c6, .slice a7 1 c7], 38)] [⟨.slice (some ⟨gA, 0, none⟩) 1 1, 57, 3, 1, LW (ann rate)⟩, ⟨.slice a3 m c3, 59, 3, m, L3 ST⟩, ⟨.slice (some ⟨g7, 0, none⟩) 1 1, 53, 20, 1, cS s⟩] [fun V => Shts V a6 1 c6 T ∧ Wals V a7 1 c7 M] from (hVK_3.out |>.set (j := 0) (v := .slice a6 1 c6) 3 rfl |>.set (j := 1) (v := .slice a7 1 c7) 3 rfl)) (fun _ hX => ⟨hX.cell 0 0 rfl rfl, hX.cell 0 1 rfl rfl, (hX.cell 2 2 rfl K2.out), (hX.cell 2 3 rfl K3.out), trivial⟩) ?_
              intro VK_4 hc hHK_4
              have hVK_4 := Lib.hid hc
              clear hc hKq Kq hVK_3 cQ0 fQ0 cQ1 fQ1 hHK_3
              try simp only [Act.put]
              refine wpAnyH_done (by kernel_rfl) ?_ _
              refine NoPanic.normal ?_
              go_wp2
              go_meet
              exact ⟨_, a6, a7, c6, c7, T, M, rfl, hT, hM, Lib.hid (hVK_4.out.thin (List.Sublist.refl _) (by exact List.Sublist.cons_cons _ (List.Sublist.cons_cons _ (List.nil_sublist _))))⟩
            exact AllReadyH.nil
          case rest =>
            clear hK
            obtain ⟨b18, a6, a7, c6, c7, T, M, rfl, HT, HM, hS⟩ := hcut
            clear HPO HR0
            have v0 : wc.cell? ⟨b9, 0, none⟩ = some (.int .i64 p0) := hS.out.cell 1 0 rfl rfl
            have v1 : wc.cell? ⟨b9, 1, none⟩ = some (.int .i64 p1) := hS.out.cell 1 1 rfl rfl
            have v2 : wc.cell? ⟨b9, 2, none⟩ = some (.int .i64 p2) := hS.out.cell 1 2 rfl rfl
            have v3 : wc.cell? ⟨b9, 3, none⟩ = some (.int .i64 p3) := hS.out.cell 1 3 rfl rfl
            have u0 : wc.cell? ⟨b18, 0, none⟩ = some (.slice a6 1 c6) := hS.out.cell 3 0 rfl rfl
            have u1 : wc.cell? ⟨b18, 1, none⟩ = some (.slice a7 1 c7) := hS.out.cell 3 1 rfl rfl
            go_wp2_with fail
            refine (HPY.out _ _ _ _ _ _ _ _ _ _ _ _ _ _ _ ST _ (ST.map f) m HPB.out HOKS.out (by rw [HME.out]; omega) (by rw [HFE.out]) (by rw [List.length_map]; exact HME.out) HT.out HM.out (hS.out.r 0 rfl) (hS.out.osx 0 rfl) (hS.out.osx 1 rfl)).mono ?_
            rintro e W7 ⟨a10, c10, rfl, hr, hb⟩
            have hS1 := Lib.hid (hS.out.adopt hb hr.out)
            clear hb hr hS v0 v1 v2 v3 u0 u1
            have v0 : W7.cell? ⟨b9, 0, none⟩ = some (.int .i64 p0) := hS1.out.cell 1 0 rfl rfl
            have v1 : W7.cell? ⟨b9, 1, none⟩ = some (.int .i64 p1) := hS1.out.cell 1 1 rfl rfl
            have v2 : W7.cell? ⟨b9, 2, none⟩ = some (.int .i64 p2) := hS1.out.cell 1 2 rfl rfl
            have v3 : W7.cell? ⟨b9, 3, none⟩ = some (.int .i64 p3) := hS1.out.cell 1 3 rfl rfl
            have u0 : W7.cell? ⟨b18, 0, none⟩ = some (.slice a6 1 c6) := hS1.out.cell 3 0 rfl rfl
            have u1 : W7.cell? ⟨b18, 1, none⟩ = some (.slice a7 1 c7) := hS1.out.cell 3 1 rfl rfl
            have k2 : W7.cell? ⟨b13, 2, none⟩ = some (.int .i64 x.len) := hS1.out.cell 2 2 rfl K2.out
            have hS2 := Lib.hid (hS1.out.onew W7.heap.size #[.int .i64 0, .int .i64 0, .int .i64 x.len] 59 3 1 rfl (by omega) rfl)
            have z0 : (W7.alloc (.cells #[.int .i64 0, .int .i64 0, .int .i64 x.len] 59)).cell? ⟨b9, 0, none⟩ = some (.int .i64 p0) := hS2.out.cell 1 0 rfl rfl
            have z1 : (W7.alloc (.cells #[.int .i64 0, .int .i64 0, .int .i64 x.len] 59)).cell? ⟨b9, 1, none⟩ = some (.int .i64 p1) := hS2.out.cell 1 1 rfl rfl
            have z2 : (W7.alloc (.cells #[.int .i64 0, .int .i64 0, .int .i64 x.len] 59)).cell? ⟨b9, 2, none⟩ = some (.int .i64 p2) := hS2.out.cell 1 2 rfl rfl
            have z3 : (W7.alloc (.cells #[.int .i64 0, .int .i64 0, .int .i64 x.len] 59)).cell? ⟨b9, 3, none⟩ = some (.int .i64 p3) := hS2.out.cell 1 3 rfl rfl
            go_wp2_with fail
            refine (HPY.out _ _ _ _ _ _ _ _ _ _ _ _ _ _ _ [(0, 0, x.len)] 1 [f (0, 0, x.len)] 1 HPB.out HOK1.out (by simp) (by rw [HFE.out]; rfl) rfl HT.out HM.out (hS2.out.r 0 rfl) (hS2.out.osx 0 rfl) (hS2.out.osx 3 rfl)).mono ?_
            rintro e W8 ⟨a11, c11, rfl, hr, hb⟩
            have hS3 := Lib.hid (hS2.out.adopt hb hr.out)
            clear hb hr hS1 hS2 v0 v1 v2 v3 u0 u1 k2 z0 z1 z2 z3
            have u0 : W8.cell? ⟨b18, 0, none⟩ = some (.slice a6 1 c6) := hS3.out.cell 3 0 rfl rfl
            have u1 : W8.cell? ⟨b18, 1, none⟩ = some (.slice a7 1 c7) := hS3.out.cell 3 1 rfl rfl
            go_wp2_with fail
            refine (HPY.out _ _ _ _ _ _ _ _ _ _ _ 0 0 0 0 ST _ (ST.map f0) m HZ0.out HOKS.out (by rw [HME.out]; omega) (by rw [HF0E.out]) (by rw [List.length_map]; exact HME.out) HT.out HM.out (hS3.out.r 0 rfl) (hS3.out.osx 0 rfl) (hS3.out.osx 1 rfl)).mono ?_
            rintro e W9 ⟨a12, c12, rfl, hr, hb⟩
            have hS4 := Lib.hid (hS3.out.adopt hb hr.out)
            clear hb hr hS3 u0 u1 HPY HOKS HOK1 HZ0
            obtain ⟨X1, hX1⟩ : ∃ X, ST.map f = X := ⟨_, rfl⟩
            obtain ⟨X3, hX3⟩ : ∃ X, ST.map f0 = X := ⟨_, rfl⟩
            obtain ⟨f1, hf1⟩ : ∃ z, f (0, 0, x.len) = z := ⟨_, rfl⟩
            have HL1 := Lib.hid (show X1.length = m from by rw [← hX1, List.length_map]; exact HME.out)
            have HL3 := Lib.hid (show X3.length = m from by rw [← hX3, List.length_map]; exact HME.out)
            have HB1 := Lib.hid (show ∀ z ∈ X1, 0 ≤ z ∧ z ≤ 400000000000 from fun z hz => by rw [← hX1] at hz; obtain ⟨q, hq, rfl⟩ := List.mem_map.1 hz; exact HFB.out HPB.out q hq)
            have HB3 := Lib.hid (show ∀ z ∈ X3, 0 ≤ z ∧ z ≤ 400000000000 from fun z hz => by rw [← hX3] at hz; obtain ⟨q, hq, rfl⟩ := List.mem_map.1 hz; exact HF0.out q hq)
            have hf1b := HF1.out HPB.out
            have hoff := HOFF.out
            rw [hX1, hf1] at hoff
            rw [hX1, hX3] at HEXT
            rw [hX1, hX3, hf1] at hS4
            rw [hf1] at hf1b
            have HO2 := Lib.hid hoff
            clear hoff hX1 hX3 hf1 HF0 HFB HF1 HOFF HFE HF0E HSTE HME HT HM
            have hS5 := Lib.hid (hS4.out.pick [] (rs' := []) rfl)
            clear hS4
            have m0 : (m : Int) ≠ 0 := by omega
            go_upto_region 26 with fail
            refine wp_geny hS5.out ?_
            intro WA hc
            have hQ := Lib.hid hc
            clear hc hS5
            go_wp2
            go_loopw [28, 25, 26] (fun iv sv ev wr => ∃ (k : Nat) (sm ex : Int), k ≤ m ∧ iv = .int .i64 k ∧ sv = .int .i64 sm ∧ ev = .int .i64 ex ∧ (0 ≤ sm ∧ sm ≤ (k : Int) * 400000000000) ∧ (-((k : Int) * 400000000000) ≤ ex ∧ ex ≤ (k : Int) * 400000000000) ∧ Hid (sm = lsum (X1.take k)) ∧ Hid (ex = lsum (X1.take k) - lsum (X3.take k)) ∧ Hid (Sy w wr [(b5, #[.slice sa S.length sc, .slice (some ⟨g1', o1, none⟩) L.length wk], 25), (b9, #[.int .i64 p0, .int .i64 p1, .int .i64 p2, .int .i64 p3], 28), (b13, A13, 51), (b18, #[.slice a6 1 c6, .slice a7 1 c7], 38)] [⟨.slice (some ⟨gA, 0, none⟩) 1 1, 57, 3, 1, LW (ann rate)⟩, ⟨.slice a3 m c3, 59, 3, m, L3 ST⟩, ⟨.slice a10 m c10, 3, 1, m, L1 X1⟩, ⟨.slice (some ⟨W7.heap.size, 0, none⟩) 1 1, 59, 3, 1, L3 [(0, 0, x.len)]⟩, ⟨.slice a11 1 c11, 3, 1, 1, L1 [f1]⟩, ⟨.slice a12 m c12, 3, 1, m, L1 X3⟩] [])) (fun iv _ _ _ => m - (intOf iv).toNat)
            case atStart => exact ⟨0, 0, 0, Nat.zero_le _, rfl, rfl, rfl, by omega, by omega, Lib.hid rfl, Lib.hid rfl, hQ⟩
            case round =>
              clear hQ
              obtain ⟨i, sm, ex, hi, rfl, rfl, rfl, hs0, he0, HSM, HEX, hQ⟩ := hrel
              by_cases hlt : i < m
              · obtain ⟨g5, o5, rfl⟩ := (hQ.out.osx 2 rfl).addr (by omega)
                obtain ⟨g6, o6, rfl⟩ := (hQ.out.osx 5 rfl).addr (by omega)
                have hi1 : i < X1.length := by rw [HL1.out]; exact hlt
                have hi3 : i < X3.length := by rw [HL3.out]; exact hlt
                have y0 := (hQ.out.osx 2 rfl).at1 hi1
                have y1 := (hQ.out.osx 5 rfl).at1 hi3
                have hb1 := HB1.out _ (List.getElem_mem hi1)
                have hb3 := HB3.out _ (List.getElem_mem hi3)
                have HS1 := Lib.hid (show lsum (X1.take (i + 1)) = lsum (X1.take i) + X1[i] from by rw [List.take_succ_eq_append_getElem hi1, lsum_snoc])
                have HS3 := Lib.hid (show lsum (X3.take (i + 1)) = lsum (X3.take i) + X3[i] from by rw [List.take_succ_eq_append_getElem hi3, lsum_snoc])
                generalize X1[i] = z1 at *
                generalize X3[i] = z3 at *
                clear hi1 hi3
                have j0 : (0 : Int) ≤ (i : Int) := by omega
                have j1 : (i : Int) < (m : Int) := by omega
                have v1 : IntKind.i64.wrap (sm + z1) = sm + z1 := IntWalk.i64_in _ (by omega)
                have v2 : IntKind.i64.wrap (z1 - z3) = z1 - z3 := IntWalk.i64_in _ (by omega)
                have v3 : IntKind.i64.wrap (ex + (z1 - z3)) = ex + (z1 - z3) := IntWalk.i64_in _ (by omega)
                go_upto_region 31 with fail
                go_quiet (fail)
                have hQ1 := Lib.hid (hQ.out.call (below_dN (Below.refl _ _) nq))
                go_wp2
                go_roundw
                case rel => exact ⟨i + 1, sm + z1, ex + (z1 - z3), by omega, by go_num, rfl, rfl, by omega, by omega, Lib.hid (by rw [HS1.out, HSM.out]), Lib.hid (by rw [HS1.out, HS3.out, HEX.out]; omega), hQ1⟩
                case measure => simp [intOf]; omega
              · obtain rfl : m = i := by omega
                have HSM2 := Lib.hid (show sm = lsum X1 from by rw [HSM.out, List.take_of_length_le (by rw [HL1.out]; exact Nat.le_refl _)])
                have HEX2 := Lib.hid (show ex = sumBy (fun o => prAt [p0, p1, p2, p3] o.kind) x.ops from by rw [HEX.out, List.take_of_length_le (by rw [HL1.out]; exact Nat.le_refl _), List.take_of_length_le (by rw [HL3.out]; exact Nat.le_refl _)]; exact HEXT.out)
                have hO := HO2.out
                rw [← HSM2.out] at hO
                clear HSM HEX HEXT HL1 HL3 HB1 HB3 HO2 HSM2 hlt hi
                go_wp2
                go_loopw [29, 27] (fun iv ov wr => ∃ (k : Nat) (op : Int), k ≤ x.ops.length ∧ iv = .int .i64 k ∧ ov = .int .i64 op ∧ (0 ≤ op ∧ op ≤ (k : Int) * 1000000) ∧ Hid (op = sumBy (fun o => prAt [p0, p1, p2, p3] o.kind) (x.ops.take k)) ∧ Hid (Sy w wr [(b5, #[.slice sa S.length sc, .slice (some ⟨g1', o1, none⟩) L.length wk], 25), (b9, #[.int .i64 p0, .int .i64 p1, .int .i64 p2, .int .i64 p3], 28), (b13, A13, 51), (b18, #[.slice a6 1 c6, .slice a7 1 c7], 38)] [⟨.slice (some ⟨gA, 0, none⟩) 1 1, 57, 3, 1, LW (ann rate)⟩, ⟨.slice a3 m c3, 59, 3, m, L3 ST⟩, ⟨.slice a10 m c10, 3, 1, m, L1 X1⟩, ⟨.slice (some ⟨W7.heap.size, 0, none⟩) 1 1, 59, 3, 1, L3 [(0, 0, x.len)]⟩, ⟨.slice a11 1 c11, 3, 1, 1, L1 [f1]⟩, ⟨.slice a12 m c12, 3, 1, m, L1 X3⟩] [])) (fun iv _ _ => x.ops.length - (intOf iv).toNat)
                case atStart => exact ⟨0, 0, Nat.zero_le _, rfl, rfl, by omega, Lib.hid rfl, hQ⟩
                case round =>
                  clear hQ
                  obtain ⟨i, op, hi, rfl, rfl, hob, HSO, hQ⟩ := hrel
                  have k3 : wr.cell? ⟨b13, 3, none⟩ = some (.slice x.oa x.ops.length x.oc) := hQ.out.cell 2 3 rfl K3.out
                  by_cases hlt : i < x.ops.length
                  · obtain ⟨g5, o5, ho5⟩ := (HOX.out w (Below.refl _ _)).addr (by omega)
                    rw [ho5] at k3
                    have y0 : wr.cell? ⟨g5, o5 + i * 5, none⟩ = some (.int .u8 x.ops[i].kind) := by have h := HOX.out _ hQ.out.be; rw [ho5] at h; exact (h.atO hlt).1
                    clear ho5
                    have hop := (HOP.out x.ops[i] (List.getElem_mem hlt)).1
                    have HTK := Lib.hid (sumBy_take (fun o : Opn => prAt [p0, p1, p2, p3] o.kind) x.ops i hlt)
                    generalize x.ops[i] = o at *
                    have j0 : (0 : Int) ≤ (i : Int) := by omega
                    have j1 : (i : Int) < (x.ops.length : Int) := by omega
                    have hpa := prAt_bd (fun p hq => inB_iff.1 (List.all_eq_true.1 HPB.out p hq)) o.kind
                    have hk : o.kind = 1 ∨ o.kind = 2 ∨ o.kind = 3 ∨ o.kind = 4 := by omega
                    rcases hk with hk | hk | hk | hk
                    · have ek : prAt [p0, p1, p2, p3] 1 = p0 := rfl
                      rw [hk] at y0 HTK hpa
                      rw [ek] at HTK hpa
                      have v0 : wr.cell? ⟨b9, 0, none⟩ = some (.int .i64 p0) := hQ.out.cell 1 0 rfl rfl
                      have w9 : IntKind.i64.wrap (op + p0) = op + p0 := IntWalk.i64_in _ (by omega)
                      clear hk
                      go_wp2
                      go_roundw
                      case rel => exact ⟨i + 1, op + p0, by omega, by go_num, rfl, by omega, Lib.hid (by rw [HTK.out, HSO.out]), hQ⟩
                      case measure => simp [intOf]; omega
                    · have ek : prAt [p0, p1, p2, p3] 2 = p1 := rfl
                      rw [hk] at y0 HTK hpa
                      rw [ek] at HTK hpa
                      have v0 : wr.cell? ⟨b9, 1, none⟩ = some (.int .i64 p1) := hQ.out.cell 1 1 rfl rfl
                      have w9 : IntKind.i64.wrap (op + p1) = op + p1 := IntWalk.i64_in _ (by omega)
                      clear hk
                      go_wp2
                      go_roundw
                      case rel => exact ⟨i + 1, op + p1, by omega, by go_num, rfl, by omega, Lib.hid (by rw [HTK.out, HSO.out]), hQ⟩
                      case measure => simp [intOf]; omega
                    · have ek : prAt [p0, p1, p2, p3] 3 = p2 := rfl
                      rw [hk] at y0 HTK hpa
                      rw [ek] at HTK hpa
                      have v0 : wr.cell? ⟨b9, 2, none⟩ = some (.int .i64 p2) := hQ.out.cell 1 2 rfl rfl
                      have w9 : IntKind.i64.wrap (op + p2) = op + p2 := IntWalk.i64_in _ (by omega)
                      clear hk
                      go_wp2
                      go_roundw
                      case rel => exact ⟨i + 1, op + p2, by omega, by go_num, rfl, by omega, Lib.hid (by rw [HTK.out, HSO.out]), hQ⟩
                      case measure => simp [intOf]; omega
                    · have ek : prAt [p0, p1, p2, p3] 4 = p3 := rfl
                      rw [hk] at y0 HTK hpa
                      rw [ek] at HTK hpa
                      have v0 : wr.cell? ⟨b9, 3, none⟩ = some (.int .i64 p3) := hQ.out.cell 1 3 rfl rfl
                      have w9 : IntKind.i64.wrap (op + p3) = op + p3 := IntWalk.i64_in _ (by omega)
                      clear hk
                      go_wp2
                      go_roundw
                      case rel => exact ⟨i + 1, op + p3, by omega, by go_num, rfl, by omega, Lib.hid (by rw [HTK.out, HSO.out]), hQ⟩
                      case measure => simp [intOf]; omega
                  · obtain rfl : i = x.ops.length := by omega
                    have HOO := Lib.hid (show ex = op from by rw [HEX2.out, HSO.out, List.take_length])
                    obtain rfl : ex = op := HOO.out
                    clear HOO HSO HEX2 hlt hi
                    obtain ⟨g6, o6, rfl⟩ := (hQ.out.osx 4 rfl).addr (by omega)
                    have y0 := (hQ.out.osx 4 rfl).at1 (l := [f1]) (i := 0) (by simp)
                    rw [Nat.add_zero, List.getElem_cons_zero] at y0
                    have v1 : IntKind.i64.wrap (sm - f1) = sm - f1 := IntWalk.i64_in _ (by omega)
                    have v2 : IntKind.i64.wrap (2 * (sm - f1)) = 2 * (sm - f1) := IntWalk.i64_in _ (by omega)
                    have v3 : IntKind.i64.wrap (-(2 * (sm - f1))) = -(2 * (sm - f1)) := IntWalk.i64_in _ (by omega)
                    have v4 : IntKind.i64.wrap ((m : Int) + 1) = (m : Int) + 1 := IntWalk.i64_in _ (by omega)
                    go_upto_region 37 with fail
                    generalize 2 * (sm - f1) = off at *
                    have hmx : max off (-off) ≤ (m : Int) + 1 := by omega
                    go_wp2_with fail
                    refine (HW.out _).mono ?_
                    rintro e VZ ⟨rfl, hb⟩
                    have hZ := Lib.hid (hQ.out.call hb)
                    clear hb
                    go_wp2
                    go_ret
                    exact ⟨rfl, hZ.out.be⟩
end
end Go.Proofs.YtchignmnnbepnaaGreat

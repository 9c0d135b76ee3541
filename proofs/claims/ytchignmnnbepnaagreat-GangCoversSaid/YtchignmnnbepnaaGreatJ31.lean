/- a plan for the program -/
import Derived.Test.YtchignmnnbepnaaGreatJ28
import Derived.Test.YtchignmnnbepnaaGreatJ30
namespace Go.Proofs.YtchignmnnbepnaaGreat
open Go.RowKit
section
variable {w W W' : World} {bs : List (Nat × Array Value × TypeId)} {os : List Rw} {rs rs' : List (World → Prop)}
theorem ownsRow_awayB {own : List Nat} {W V : World} {B : Nat} {e : TypeId} {size n : Nat} {v : Value} {xs : List Value} (h : W.ownsRow B e size v n xs) (hV : Away own W V) (hn : ∀ b, v.ownBlock = some b → b ∉ own) : V.ownsRow B e size v n xs := by
  refine ⟨h.1, h.2.imp id ?_⟩
  rintro ⟨g, cap, cur, rfl, h0, hg, rest⟩
  exact ⟨g, cap, cur, rfl, h0, (hV.2 g (Array.getElem?_eq_some_iff.1 hg).1 (hn g rfl)).trans hg, rest⟩
/-- what lies from B on stays -/
def KeepsNew (B : Nat) (W V : World) : Prop := W.heap.size ≤ V.heap.size ∧ ∀ b, B ≤ b → b < W.heap.size → V.heap[b]? = W.heap[b]?
theorem ownsRow_anew {W V : World} {B : Nat} {e : TypeId} {size n : Nat} {v : Value} {xs : List Value} (h : W.ownsRow B e size v n xs) (hV : KeepsNew B W V) : V.ownsRow B e size v n xs := by
  refine ⟨h.1, h.2.imp id ?_⟩
  rintro ⟨g, cap, cur, rfl, h0, hg, rest⟩
  exact ⟨g, cap, cur, rfl, h0, (hV.2 g h0 (Array.getElem?_eq_some_iff.1 hg).1).trans hg, rest⟩
/-- a fresh row that a callee has made, kept as a reading -/
theorem Sy.pushFresh (h : Sy w W bs os rs) (hb : Below W.heap.size W W') {e : TypeId} {size n : Nat} {v : Value} {xs : List Value} (hr : W'.ownsRow W.heap.size e size v n xs) : Sy w W' bs os (rs ++ [fun V => V.ownsRow w.heap.size e size v n xs]) := by
  refine (h.call hb).push fun V hV => ?_
  have h0 : W'.ownsRow w.heap.size e size v n xs := by
    obtain ⟨h1, h2⟩ := hr
    refine ⟨h1, h2.imp id ?_⟩
    rintro ⟨g, cap, cur, hv, hge, rest⟩
    exact ⟨g, cap, cur, hv, Nat.le_trans h.be.size hge, rest⟩
  refine ownsRow_awayB h0 hV fun b hb' hm => ?_
  have h1 := (World.ownsRow.lt hr b hb').1
  have h2 := (h.own_ge hm).2
  omega
theorem Sy.imp (h : Sy w W bs os rs) (hi : ∀ V, (∀ r ∈ rs, r V) → ∀ r ∈ rs', r V) : Sy w W bs os rs' := ⟨h.be, h.bx, h.ow, h.inc, fun r hr V hV => hi V (fun q hq => h.rd q hq V hV) r hr⟩
end
theorem cS_ones (s : Sht) : ∀ u ∈ cS s, u.oneCell' = true := by
  intro u hu
  have := cS_one s
  rw [← Array.all_toList] at this
  exact List.all_eq_true.1 this u hu
theorem cWa_ones (x : Wal) : ∀ u ∈ cWa x, u.oneCell' = true := by
  intro u hu
  have := cWa_one x
  rw [← Array.all_toList] at this
  exact List.all_eq_true.1 this u hu
theorem info_Sheet3 : (Tryz.prog.info? 92).map (fun i => (i.zero, i.size, i.bytes)) = some (some zS, 20, 184) := by kernel_rfl
theorem info_Wall3 : (Tryz.prog.info? 91).map (fun i => (i.zero, i.size, i.bytes)) = some (some zW, 4, 64) := by kernel_rfl
theorem info_Sheet2 : (Tryz.prog.info? 92).map (fun i => (i.zero, i.size)) = some (some zS, 20) := by kernel_rfl
theorem info_Wall2 : (Tryz.prog.info? 91).map (fun i => (i.zero, i.size)) = some (some zW, 4) := by kernel_rfl
def RetPlan (w : World) (S : List Sht) (L : List Wal) (e : Ending) (w' : World) : Prop := ∃ (a a' : Option Addr) (c c' : Nat) (T : List Sht) (M : List Wal), T.map nS = S.map nS ∧ M.map nW = L.map nW ∧ e = .returned (.agg #[.slice a S.length c, .slice a' L.length c']) ∧ Shts w' a S.length c T ∧ Wals w' a' L.length c' M ∧ Below w.heap.size w w' ∧ ∀ V, KeepsNew w.heap.size w' V → Shts V a S.length c T ∧ Wals V a' L.length c' M
def RetSheet2 (w : World) (s : Sht) (e : Ending) (w' : World) : Prop := ∃ (t : Sht) (U : Value), Hid (nS t = nS s) ∧ Hid (U = .agg (cS t).toArray) ∧ e = .returned U ∧ Hid (w'.ownsRow w.heap.size 3 1 (.slice t.ha t.hn t.hc) t.hn (L1 t.hs)) ∧ Below w.heap.size w w'
def RetWall2 (w : World) (x : Wal) (e : Ending) (w' : World) : Prop := ∃ (y : Wal) (U : Value), Hid (nW y = nW x) ∧ Hid (U = .agg (cWa y).toArray) ∧ e = .returned U ∧ Hid (w'.ownsRow w.heap.size 95 5 (.slice y.oa y.on y.oc) y.on (LO y.ops)) ∧ Below w.heap.size w w'
theorem lSheet_c (w : World) (s : Sht) (hs : Sx 1 w s.ha s.hn s.hc (L1 s.hs)) (hn : s.hn ≤ 1000) : Calls Tryz.prog 32 #[aS s] w (RetSheet2 w s) :=
  (lSheet_any w s hs hn).mono fun _ _ ⟨t, h1, h2, h3, h4⟩ => ⟨t, _, Lib.hid ((congrArg nS h1).trans rfl), Lib.hid rfl, h2, Lib.hid h3, h4⟩
theorem lWall_c (w : World) (x : Wal) (hs : Sx 5 w x.oa x.on x.oc (LO x.ops)) (hn : x.on ≤ 1000) : Calls Tryz.prog 33 #[aW x] w (RetWall2 w x) :=
  (lWall_any w x hs hn).mono fun _ _ ⟨t, h1, h2, h3, h4⟩ => ⟨t, _, Lib.hid ((congrArg nW h1).trans rfl), Lib.hid rfl, h2, Lib.hid h3, h4⟩
theorem copies {α β : Type} {f : α → β} {l m : List α} (h : m.map f = l.map f) {P : β → Prop} (hl : ∀ x ∈ l, P (f x)) : ∀ y ∈ m, P (f y) := fun y hy => by
  have : f y ∈ l.map f := by rw [← h]; exact List.mem_map.2 ⟨y, hy, rfl⟩
  obtain ⟨x, hx, e⟩ := List.mem_map.1 this
  rw [← e]
  exact hl x hx
section
variable (w : World)
set_option maxHeartbeats 32000000 in
set_option maxRecDepth 100000 in
theorem lPlan_any (sa wa : Option Addr) (sn sc wn wc : Nat) (S : List Sht) (L : List Wal) (hS : Shts w sa sn sc S) (hL : Wals w wa wn wc L) (h1 : S.length ≤ 1000 ∧ L.length ≤ 1000) (h2 : ∀ s ∈ S, s.hn ≤ 1000) (h3 : ∀ x ∈ L, x.on ≤ 1000) :
    Calls Tryz.prog 8 #[.agg #[.slice sa sn sc, .slice wa wn wc]] w (RetPlan w S L) := by
  obtain rfl := hS.row.nS
  obtain rfl := hL.row.nWa
  have hcs := hS.row.cap
  have hcw := hL.row.cap
  unfold maxLen at hcs hcw
  obtain ⟨hl1, hl2⟩ := h1
  have HS := Lib.hid hS
  have HL := Lib.hid hL
  have H2 := Lib.hid h2
  have H3 := Lib.hid h3
  clear hS hL h2 h3
  go_enter Tryz.func8, Tryz.ntmps8
  go_upto_region 1 with (refine wpList_bx (o := ⟨some 1, _, _, _, _, _⟩) rfl (Sy.enter w) _ _ rfl #[.slice sa S.length sc, .slice wa L.length wc] rfl ?_; intro b1 V1 h1; have hA := Lib.hid h1; clear h1)
  have hB := Lib.hid (hA.out.al V1.heap.size #[.slice none 0 0, .slice none 0 0] 38 rfl)
  obtain ⟨b2, hb2⟩ : ∃ b2, V1.heap.size = b2 := ⟨_, rfl⟩
  rw [hb2] at hB ⊢
  refine wp_geny hB.out ?_
  intro V2 hc
  have hD : Hid (Sy w V2 [(b1, #[.slice sa S.length sc, .slice wa L.length wc], 25), (b2, #[.slice none 0 0, .slice none 0 0], 38)] [] []) := Lib.hid hc
  clear hc hB hb2 hA
  go_upto_region 2 with fail
  have hB := Lib.hid (((hD.out.al V2.heap.size #[.slice none 0 0, .slice none 0 0] 38 rfl).onil 92 20).push (r := (fun V => ∀ t ∈ (([] : List Sht) : List Sht), V.ownsRow w.heap.size 3 1 (.slice t.ha t.hn t.hc) t.hn (L1 t.hs))) (fun V _ t ht => absurd ht (by simp)))
  obtain ⟨b3, hb3⟩ : ∃ b3, V2.heap.size = b3 := ⟨_, rfl⟩
  rw [hb3] at hB ⊢
  refine wp_geny hB.out ?_
  intro V3 hc
  have hC : Hid (Sy w V3 [(b1, #[.slice sa S.length sc, .slice wa L.length wc], 25), (b2, #[.slice none 0 0, .slice none 0 0], 38), (b3, #[.slice none 0 0, .slice none 0 0], 38)] [⟨.slice none 0 0, 92, 20, 0, LS []⟩] [(fun V => ∀ t ∈ ([] : List Sht), V.ownsRow w.heap.size 3 1 (.slice t.ha t.hn t.hc) t.hn (L1 t.hs))]) := Lib.hid hc
  clear hc hB hb3 hD
  go_wp2
  go_loopw [4] (fun iv wr => ∃ (k : Nat) (a : Option Addr) (c : Nat) (T : List Sht), k ≤ S.length ∧ iv = .int .i64 k ∧ Hid (T.map nS = (S.take k).map nS) ∧ Hid (Sy w wr [(b1, #[.slice sa S.length sc, .slice wa L.length wc], 25), (b2, #[.slice none 0 0, .slice none 0 0], 38), (b3, #[.slice a k c, .slice none 0 0], 38)] [⟨.slice a k c, 92, 20, k, LS T⟩] [(fun V => ∀ t ∈ (T : List Sht), V.ownsRow w.heap.size 3 1 (.slice t.ha t.hn t.hc) t.hn (L1 t.hs))])) (fun iv _ => S.length - (intOf iv).toNat)
  case atStart => exact ⟨0, none, 0, [], Nat.zero_le _, rfl, Lib.hid rfl, hC⟩
  case round =>
    clear hC
    obtain ⟨k, a, c, T, hk, rfl, HT, hC⟩ := hrel
    have x0 : wr.cell? ⟨b1, 0, none⟩ = some (.slice sa S.length sc) := hC.out.cell 0 0 rfl rfl
    by_cases hlt : k < S.length
    · obtain ⟨g0, o0, rfl⟩ := HS.out.row.addr (by omega)
      have HR := Lib.hid (fun W (hW : Below w.heap.size w W) => (HS.out.row.below hW).range (f := cS) (fun _ => rfl) hlt)
      have HC := Lib.hid (fun W (hW : Below w.heap.size w W) => lSheet_c W S[k] ((HS.out.hts _ (List.getElem_mem hlt)).below hW) (H2.out _ (List.getElem_mem hlt)))
      have HN := Lib.hid (show ∀ t, nS t = nS S[k] → (T ++ [t]).map nS = (S.take (k + 1)).map nS from fun t ht => by rw [List.take_succ_eq_append_getElem hlt, List.map_append, List.map_append, HT.out, List.map_cons, List.map_cons, ht])
      have i0 : (0 : Int) ≤ (k : Int) := by omega
      have i1 : (k : Int) < (S.length : Int) := by omega
      clear HT
      generalize S[k] = s at *
      obtain ⟨V, hV⟩ : ∃ V, Value.agg (cS s).toArray = V := ⟨_, rfl⟩
      have HV := Lib.hid hV
      rw [show aS s = V from hV] at HC
      clear hV
      go_upto_region 5 with fail
      clear x0
      refine wp_region_held_drew (S := (fun w' => w'.cell? ⟨b1, 0, none⟩ = some (.slice (some ⟨g0, o0, none⟩) S.length sc) ∧ w'.cell? ⟨b1, 1, none⟩ = some (.slice wa L.length wc) ∧ w'.rangeAt g0 (o0 + k * 20) (cS s) ∧ True)) (by kernel_rfl) ⟨hC.out.drew.cell 0 0 rfl rfl, hC.out.drew.cell 0 1 rfl rfl, (HR.out _ hC.out.drew.be), trivial⟩ (fun hH => ?_)
      refine wpAnyH_geny (show Sy w _ [(b1, #[.slice (some ⟨g0, o0, none⟩) S.length sc, .slice wa L.length wc], 25), (b2, #[.slice none 0 0, .slice none 0 0], 38), (b3, #[.slice a k c, .slice none 0 0], 38)] [⟨.slice a k c, 92, 20, k, LS T⟩] [(fun V => ∀ t ∈ (T : List Sht), V.ownsRow w.heap.size 3 1 (.slice t.ha t.hn t.hc) t.hn (L1 t.hs))] from hC.out.drew) hH ?_
      intro VS_0 hc hHS_0
      have hVS_0 := Lib.hid hc
      clear hc hH hC
      refine wpAnyH_take (i := 0) (oi := ⟨_, _, _, _, _, _⟩) (v := ?_) rfl (by kernel_rfl) (by kernel_rfl) (by kernel_rfl) (fun _ _ _ h => h) (Or.inl ⟨by rfl, ?_⟩) hHS_0 ?_
      rotate_left
      · intro wS hSw; (try dsimp only at hSw); go_simp; try with_reducible rfl
      try simp only [Act.put, List.setIfInBounds_toArray, List.set_cons_zero, List.set_cons_succ]
      refine wpAnyH_take (i := 2) (oi := ⟨_, _, _, _, _, _⟩) (v := ?_) rfl (by kernel_rfl) (by kernel_rfl) (by kernel_rfl) (fun _ _ _ h => h) (Or.inl ⟨by rfl, ?_⟩) hHS_0 ?_
      rotate_left
      · intro wS hSw; (try dsimp only at hSw); go_simp; try with_reducible rfl
      try simp only [Act.put, List.setIfInBounds_toArray, List.set_cons_zero, List.set_cons_succ]
      refine wpAnyH_take (i := 3) (oi := ⟨_, _, _, _, _, _⟩) (v := ?_) rfl (by kernel_rfl) (by kernel_rfl) (by kernel_rfl) (fun _ _ _ h => h) (Or.inl ⟨by rfl, ?_⟩) hHS_0 ?_
      rotate_left
      · intro wS hSw; (try dsimp only at hSw); go_simp; try with_reducible rfl
      try simp only [Act.put, List.setIfInBounds_toArray, List.set_cons_zero, List.set_cons_succ]
      refine wpAnyH_take (i := 4) (oi := ⟨_, _, _, _, _, _⟩) (v := ?_) rfl (by kernel_rfl) (by kernel_rfl) (by kernel_rfl) (fun _ _ _ h => h) (Or.inl ⟨by rfl, ?_⟩) hHS_0 ?_
      rotate_left
      · intro wS hSw; (try dsimp only at hSw); go_simp; try with_reducible rfl
      try simp only [Act.put, List.setIfInBounds_toArray, List.set_cons_zero, List.set_cons_succ]
      refine wpAnyH_take (i := 5) (oi := ⟨_, _, _, _, _, _⟩) (v := ?_) rfl (by kernel_rfl) (by kernel_rfl) (by kernel_rfl) (fun _ _ _ h => h) (Or.inl ⟨by rfl, ?_⟩) hHS_0 ?_
      rotate_left
      · intro wS hSw; (try dsimp only at hSw); go_simp; try with_reducible rfl
      try simp only [Act.put, List.setIfInBounds_toArray, List.set_cons_zero, List.set_cons_succ]
      refine wpAnyH_take (i := 6) (oi := ⟨_, _, _, _, _, _⟩) (v := V) rfl (by kernel_rfl) (by kernel_rfl) (by kernel_rfl) (fun _ _ _ h => h) (yieldsIf_ld (by rfl) _ _ rfl g0 (o0 + k * 20) rfl (cS s) _ (fun _ h => h.2.2.1) Tryz.underlying53 rfl info_RSheet V HV.out) hHS_0 ?_
      try simp only [Act.put, List.setIfInBounds_toArray, List.set_cons_zero, List.set_cons_succ]
      refine wpAnyH_ready (rs := [1, 7]) (by kernel_rfl) (by simp) ?_
      refine AllReadyH.cons (o := ⟨_, _, _, _, _, _⟩) rfl (fun Kq hKq => ?_) ?_
      · have cQ0 := hVS_0.out.cell 2 0 rfl rfl
        go_simp
        refine stepY hKq (show Sy w _ [(b1, #[.slice (some ⟨g0, o0, none⟩) S.length sc, .slice wa L.length wc], 25), (b2, #[.slice none 0 0, .slice none 0 0], 38), (b3, #[.slice a k c, .slice none 0 0], 38)] [⟨.slice a k c, 92, 20, k, LS T⟩] [(fun V => ∀ t ∈ (T : List Sht), V.ownsRow w.heap.size 3 1 (.slice t.ha t.hn t.hc) t.hn (L1 t.hs))] from hVS_0.out) (fun _ hX => ⟨hX.cell 0 0 rfl rfl, hX.cell 0 1 rfl rfl, (HR.out _ hX.be), trivial⟩) ?_
        intro VS_1 hc hHS_1
        have hVS_1 := Lib.hid hc
        clear hc hKq Kq hVS_0 cQ0 hHS_0
        try simp only [Act.put, List.setIfInBounds_toArray, List.set_cons_zero, List.set_cons_succ]
        refine wpAnyH_ready (rs := [7]) (by kernel_rfl) (by simp) ?_
        refine AllReadyH.cons (o := ⟨_, _, _, _, _, _⟩) rfl (fun Kq hKq => ?_) AllReadyH.nil
        go_simp
        go_at_call 32
        refine (HC.out _ hVS_1.out.be).mono ?_
        rintro e wT ⟨t1, U1, ht1, hU1, rfl, hr1, hb⟩
        (try go_wp2_with fail)
        refine stepY hKq (show Sy w _ [(b1, #[.slice (some ⟨g0, o0, none⟩) S.length sc, .slice wa L.length wc], 25), (b2, #[.slice none 0 0, .slice none 0 0], 38), (b3, #[.slice a k c, .slice none 0 0], 38)] [⟨.slice a k c, 92, 20, k, LS T⟩] [(fun V => ∀ t ∈ (T : List Sht), V.ownsRow w.heap.size 3 1 (.slice t.ha t.hn t.hc) t.hn (L1 t.hs)), (fun V => V.ownsRow w.heap.size 3 1 (.slice t1.ha t1.hn t1.hc) t1.hn (L1 t1.hs))] from (hVS_1.out.pushFresh hb hr1.out)) (fun _ hX => ⟨hX.cell 0 0 rfl rfl, hX.cell 0 1 rfl rfl, (HR.out _ hX.be), trivial⟩) ?_
        intro VS_2 hc hHS_2
        have hVS_2 := Lib.hid hc
        clear hc hKq Kq hVS_1 hb hr1 hHS_1
        try simp only [Act.put, List.setIfInBounds_toArray, List.set_cons_zero, List.set_cons_succ]
        refine wpAnyH_ready (rs := [8]) (by kernel_rfl) (by simp) ?_
        refine AllReadyH.cons (o := ⟨_, _, _, _, _, _⟩) rfl (fun Kq hKq => ?_) AllReadyH.nil
        rw [if_pos (by rfl)]
        refine op_bs hVS_2.out _ 92 _ rfl 20 zS (cS t1).toArray U1 und_Sheets info_Sheet2 (by omega) (by omega) rfl (by rw [hU1.out]; exact fill_sheet t1) rfl (fun gB _ hcc => ?_)
        refine stepY hKq (show Sy w _ [(b1, #[.slice (some ⟨g0, o0, none⟩) S.length sc, .slice wa L.length wc], 25), (b2, #[.slice none 0 0, .slice none 0 0], 38), (b3, #[.slice a k c, .slice none 0 0], 38)] [⟨.slice a k c, 92, 20, k, LS T⟩, ⟨.slice (some ⟨gB, 0, none⟩) 1 1, 92, 20, 1, cS t1⟩] [(fun V => ∀ t ∈ (T : List Sht), V.ownsRow w.heap.size 3 1 (.slice t.ha t.hn t.hc) t.hn (L1 t.hs)), (fun V => V.ownsRow w.heap.size 3 1 (.slice t1.ha t1.hn t1.hc) t1.hn (L1 t1.hs))] from hcc) (fun _ hX => ⟨hX.cell 0 0 rfl rfl, hX.cell 0 1 rfl rfl, (HR.out _ hX.be), trivial⟩) ?_
        intro VS_3 hc hHS_3
        have hVS_3 := Lib.hid hc
        clear hc hKq Kq hVS_2 hcc hHS_2
        try simp only [Act.put, List.setIfInBounds_toArray, List.set_cons_zero, List.set_cons_succ]
        refine wpAnyH_ready (rs := [9]) (by kernel_rfl) (by simp) ?_
        refine AllReadyH.cons (o := ⟨_, _, _, _, _, _⟩) rfl (fun Kq hKq => ?_) AllReadyH.nil
        rw [if_pos (by rfl)]
        refine op_append_sy hVS_3.out 0 1 rfl rfl _ _ _ rfl und_Sheets info_Sheet3 rfl (by omega) rfl rfl (cS_ones _) (by omega) (by omega) (fun aA cA _ hcc => ?_)
        refine stepY hKq (show Sy w _ [(b1, #[.slice (some ⟨g0, o0, none⟩) S.length sc, .slice wa L.length wc], 25), (b2, #[.slice none 0 0, .slice none 0 0], 38), (b3, #[.slice a k c, .slice none 0 0], 38)] [⟨.slice aA (k + 1) cA, 92, 20, k + 1, LS T ++ cS t1⟩, ⟨.slice (some ⟨gB, 0, none⟩) 1 1, 92, 20, 1, cS t1⟩] [(fun V => ∀ t ∈ (T : List Sht), V.ownsRow w.heap.size 3 1 (.slice t.ha t.hn t.hc) t.hn (L1 t.hs)), (fun V => V.ownsRow w.heap.size 3 1 (.slice t1.ha t1.hn t1.hc) t1.hn (L1 t1.hs))] from hcc) (fun _ hX => ⟨hX.cell 0 0 rfl rfl, hX.cell 0 1 rfl rfl, (HR.out _ hX.be), trivial⟩) ?_
        intro VS_4 hc hHS_4
        have hVS_4 := Lib.hid hc
        clear hc hKq Kq hVS_3 hcc hHS_3
        try simp only [Act.put, List.setIfInBounds_toArray, List.set_cons_zero, List.set_cons_succ]
        refine wpAnyH_take (i := 10) (oi := ⟨_, _, _, _, _, _⟩) (v := ?_) rfl (by kernel_rfl) (by kernel_rfl) (by kernel_rfl) (fun _ _ _ h => h) (Or.inl ⟨by rfl, ?_⟩) hHS_4 ?_
        rotate_left
        · intro wS hSw; (try dsimp only at hSw); go_simp; try with_reducible rfl
        try simp only [Act.put, List.setIfInBounds_toArray, List.set_cons_zero, List.set_cons_succ]
        refine wpAnyH_ready (rs := [11]) (by kernel_rfl) (by simp) ?_
        refine AllReadyH.cons (o := ⟨_, _, _, _, _, _⟩) rfl (fun Kq hKq => ?_) AllReadyH.nil
        have cQ0 := hVS_4.out.cell 2 0 rfl rfl
        have fQ0 := hVS_4.out.free 2 0 rfl
        go_simp
        refine stepY hKq (show Sy w _ [(b1, #[.slice (some ⟨g0, o0, none⟩) S.length sc, .slice wa L.length wc], 25), (b2, #[.slice none 0 0, .slice none 0 0], 38), (b3, #[.slice aA (k + 1) cA, .slice none 0 0], 38)] [⟨.slice aA (k + 1) cA, 92, 20, k + 1, LS T ++ cS t1⟩, ⟨.slice (some ⟨gB, 0, none⟩) 1 1, 92, 20, 1, cS t1⟩] [(fun V => ∀ t ∈ (T : List Sht), V.ownsRow w.heap.size 3 1 (.slice t.ha t.hn t.hc) t.hn (L1 t.hs)), (fun V => V.ownsRow w.heap.size 3 1 (.slice t1.ha t1.hn t1.hc) t1.hn (L1 t1.hs))] from (hVS_4.out |>.set (j := 0) (v := .slice aA (k + 1) cA) 2 rfl)) (fun _ hX => ⟨hX.cell 0 0 rfl rfl, hX.cell 0 1 rfl rfl, (HR.out _ hX.be), trivial⟩) ?_
        intro VS_5 hc hHS_5
        have hVS_5 := Lib.hid hc
        clear hc hKq Kq hVS_4 cQ0 fQ0 hHS_4
        try simp only [Act.put]
        refine wpAnyH_done (by kernel_rfl) ?_ _
        have hF := Lib.hid ((hVS_5.out.thin (List.Sublist.refl _) (List.Sublist.cons_cons _ (List.nil_sublist _))).imp (rs' := [(fun V => ∀ t ∈ ((T ++ [t1]) : List Sht), V.ownsRow w.heap.size 3 1 (.slice t.ha t.hn t.hc) t.hn (L1 t.hs))]) (fun V h r hr => by
          rcases List.mem_singleton.1 hr with rfl
          intro t ht
          rcases List.mem_append.1 ht with ht | ht
          · exact h _ (List.mem_cons_self ..) t ht
          · rcases List.mem_singleton.1 ht with rfl
            exact h _ (List.mem_cons_of_mem _ (List.mem_cons_self ..))))
        rw [show LS T ++ cS t1 = LS (T ++ [t1]) by simp [LS]] at hF
        clear hVS_5
        go_wp2
        go_roundw
        case rel => exact ⟨k + 1, aA, cA, T ++ [t1], by omega, by go_num, Lib.hid (HN.out t1 ht1.out), hF⟩
        case measure => simp [intOf]; omega
      refine AllReadyH.cons (o := ⟨_, _, _, _, _, _⟩) rfl (fun Kq hKq => ?_) ?_
      · go_simp
        go_at_call 32
        refine (HC.out _ hVS_0.out.be).mono ?_
        rintro e wT ⟨t1, U1, ht1, hU1, rfl, hr1, hb⟩
        (try go_wp2_with fail)
        refine stepY hKq (show Sy w _ [(b1, #[.slice (some ⟨g0, o0, none⟩) S.length sc, .slice wa L.length wc], 25), (b2, #[.slice none 0 0, .slice none 0 0], 38), (b3, #[.slice a k c, .slice none 0 0], 38)] [⟨.slice a k c, 92, 20, k, LS T⟩] [(fun V => ∀ t ∈ (T : List Sht), V.ownsRow w.heap.size 3 1 (.slice t.ha t.hn t.hc) t.hn (L1 t.hs)), (fun V => V.ownsRow w.heap.size 3 1 (.slice t1.ha t1.hn t1.hc) t1.hn (L1 t1.hs))] from (hVS_0.out.pushFresh hb hr1.out)) (fun _ hX => ⟨hX.cell 0 0 rfl rfl, hX.cell 0 1 rfl rfl, (HR.out _ hX.be), trivial⟩) ?_
        intro VS_1 hc hHS_1
        have hVS_1 := Lib.hid hc
        clear hc hKq Kq hVS_0 hb hr1 hHS_0
        try simp only [Act.put, List.setIfInBounds_toArray, List.set_cons_zero, List.set_cons_succ]
        refine wpAnyH_ready (rs := [1, 8]) (by kernel_rfl) (by simp) ?_
        refine AllReadyH.cons (o := ⟨_, _, _, _, _, _⟩) rfl (fun Kq hKq => ?_) ?_
        · have cQ0 := hVS_1.out.cell 2 0 rfl rfl
          go_simp
          refine stepY hKq (show Sy w _ [(b1, #[.slice (some ⟨g0, o0, none⟩) S.length sc, .slice wa L.length wc], 25), (b2, #[.slice none 0 0, .slice none 0 0], 38), (b3, #[.slice a k c, .slice none 0 0], 38)] [⟨.slice a k c, 92, 20, k, LS T⟩] [(fun V => ∀ t ∈ (T : List Sht), V.ownsRow w.heap.size 3 1 (.slice t.ha t.hn t.hc) t.hn (L1 t.hs)), (fun V => V.ownsRow w.heap.size 3 1 (.slice t1.ha t1.hn t1.hc) t1.hn (L1 t1.hs))] from hVS_1.out) (fun _ hX => ⟨hX.cell 0 0 rfl rfl, hX.cell 0 1 rfl rfl, (HR.out _ hX.be), trivial⟩) ?_
          intro VS_2 hc hHS_2
          have hVS_2 := Lib.hid hc
          clear hc hKq Kq hVS_1 cQ0 hHS_1
          try simp only [Act.put, List.setIfInBounds_toArray, List.set_cons_zero, List.set_cons_succ]
          refine wpAnyH_ready (rs := [8]) (by kernel_rfl) (by simp) ?_
          refine AllReadyH.cons (o := ⟨_, _, _, _, _, _⟩) rfl (fun Kq hKq => ?_) AllReadyH.nil
          rw [if_pos (by rfl)]
          refine op_bs hVS_2.out _ 92 _ rfl 20 zS (cS t1).toArray U1 und_Sheets info_Sheet2 (by omega) (by omega) rfl (by rw [hU1.out]; exact fill_sheet t1) rfl (fun gB _ hcc => ?_)
          refine stepY hKq (show Sy w _ [(b1, #[.slice (some ⟨g0, o0, none⟩) S.length sc, .slice wa L.length wc], 25), (b2, #[.slice none 0 0, .slice none 0 0], 38), (b3, #[.slice a k c, .slice none 0 0], 38)] [⟨.slice a k c, 92, 20, k, LS T⟩, ⟨.slice (some ⟨gB, 0, none⟩) 1 1, 92, 20, 1, cS t1⟩] [(fun V => ∀ t ∈ (T : List Sht), V.ownsRow w.heap.size 3 1 (.slice t.ha t.hn t.hc) t.hn (L1 t.hs)), (fun V => V.ownsRow w.heap.size 3 1 (.slice t1.ha t1.hn t1.hc) t1.hn (L1 t1.hs))] from hcc) (fun _ hX => ⟨hX.cell 0 0 rfl rfl, hX.cell 0 1 rfl rfl, (HR.out _ hX.be), trivial⟩) ?_
          intro VS_3 hc hHS_3
          have hVS_3 := Lib.hid hc
          clear hc hKq Kq hVS_2 hcc hHS_2
          try simp only [Act.put, List.setIfInBounds_toArray, List.set_cons_zero, List.set_cons_succ]
          refine wpAnyH_ready (rs := [9]) (by kernel_rfl) (by simp) ?_
          refine AllReadyH.cons (o := ⟨_, _, _, _, _, _⟩) rfl (fun Kq hKq => ?_) AllReadyH.nil
          rw [if_pos (by rfl)]
          refine op_append_sy hVS_3.out 0 1 rfl rfl _ _ _ rfl und_Sheets info_Sheet3 rfl (by omega) rfl rfl (cS_ones _) (by omega) (by omega) (fun aA cA _ hcc => ?_)
          refine stepY hKq (show Sy w _ [(b1, #[.slice (some ⟨g0, o0, none⟩) S.length sc, .slice wa L.length wc], 25), (b2, #[.slice none 0 0, .slice none 0 0], 38), (b3, #[.slice a k c, .slice none 0 0], 38)] [⟨.slice aA (k + 1) cA, 92, 20, k + 1, LS T ++ cS t1⟩, ⟨.slice (some ⟨gB, 0, none⟩) 1 1, 92, 20, 1, cS t1⟩] [(fun V => ∀ t ∈ (T : List Sht), V.ownsRow w.heap.size 3 1 (.slice t.ha t.hn t.hc) t.hn (L1 t.hs)), (fun V => V.ownsRow w.heap.size 3 1 (.slice t1.ha t1.hn t1.hc) t1.hn (L1 t1.hs))] from hcc) (fun _ hX => ⟨hX.cell 0 0 rfl rfl, hX.cell 0 1 rfl rfl, (HR.out _ hX.be), trivial⟩) ?_
          intro VS_4 hc hHS_4
          have hVS_4 := Lib.hid hc
          clear hc hKq Kq hVS_3 hcc hHS_3
          try simp only [Act.put, List.setIfInBounds_toArray, List.set_cons_zero, List.set_cons_succ]
          refine wpAnyH_take (i := 10) (oi := ⟨_, _, _, _, _, _⟩) (v := ?_) rfl (by kernel_rfl) (by kernel_rfl) (by kernel_rfl) (fun _ _ _ h => h) (Or.inl ⟨by rfl, ?_⟩) hHS_4 ?_
          rotate_left
          · intro wS hSw; (try dsimp only at hSw); go_simp; try with_reducible rfl
          try simp only [Act.put, List.setIfInBounds_toArray, List.set_cons_zero, List.set_cons_succ]
          refine wpAnyH_ready (rs := [11]) (by kernel_rfl) (by simp) ?_
          refine AllReadyH.cons (o := ⟨_, _, _, _, _, _⟩) rfl (fun Kq hKq => ?_) AllReadyH.nil
          have cQ0 := hVS_4.out.cell 2 0 rfl rfl
          have fQ0 := hVS_4.out.free 2 0 rfl
          go_simp
          refine stepY hKq (show Sy w _ [(b1, #[.slice (some ⟨g0, o0, none⟩) S.length sc, .slice wa L.length wc], 25), (b2, #[.slice none 0 0, .slice none 0 0], 38), (b3, #[.slice aA (k + 1) cA, .slice none 0 0], 38)] [⟨.slice aA (k + 1) cA, 92, 20, k + 1, LS T ++ cS t1⟩, ⟨.slice (some ⟨gB, 0, none⟩) 1 1, 92, 20, 1, cS t1⟩] [(fun V => ∀ t ∈ (T : List Sht), V.ownsRow w.heap.size 3 1 (.slice t.ha t.hn t.hc) t.hn (L1 t.hs)), (fun V => V.ownsRow w.heap.size 3 1 (.slice t1.ha t1.hn t1.hc) t1.hn (L1 t1.hs))] from (hVS_4.out |>.set (j := 0) (v := .slice aA (k + 1) cA) 2 rfl)) (fun _ hX => ⟨hX.cell 0 0 rfl rfl, hX.cell 0 1 rfl rfl, (HR.out _ hX.be), trivial⟩) ?_
          intro VS_5 hc hHS_5
          have hVS_5 := Lib.hid hc
          clear hc hKq Kq hVS_4 cQ0 fQ0 hHS_4
          try simp only [Act.put]
          refine wpAnyH_done (by kernel_rfl) ?_ _
          have hF := Lib.hid ((hVS_5.out.thin (List.Sublist.refl _) (List.Sublist.cons_cons _ (List.nil_sublist _))).imp (rs' := [(fun V => ∀ t ∈ ((T ++ [t1]) : List Sht), V.ownsRow w.heap.size 3 1 (.slice t.ha t.hn t.hc) t.hn (L1 t.hs))]) (fun V h r hr => by
            rcases List.mem_singleton.1 hr with rfl
            intro t ht
            rcases List.mem_append.1 ht with ht | ht
            · exact h _ (List.mem_cons_self ..) t ht
            · rcases List.mem_singleton.1 ht with rfl
              exact h _ (List.mem_cons_of_mem _ (List.mem_cons_self ..))))
          rw [show LS T ++ cS t1 = LS (T ++ [t1]) by simp [LS]] at hF
          clear hVS_5
          go_wp2
          go_roundw
          case rel => exact ⟨k + 1, aA, cA, T ++ [t1], by omega, by go_num, Lib.hid (HN.out t1 ht1.out), hF⟩
          case measure => simp [intOf]; omega
        refine AllReadyH.cons (o := ⟨_, _, _, _, _, _⟩) rfl (fun Kq hKq => ?_) ?_
        · rw [if_pos (by rfl)]
          refine op_bs hVS_1.out _ 92 _ rfl 20 zS (cS t1).toArray U1 und_Sheets info_Sheet2 (by omega) (by omega) rfl (by rw [hU1.out]; exact fill_sheet t1) rfl (fun gB _ hcc => ?_)
          refine stepY hKq (show Sy w _ [(b1, #[.slice (some ⟨g0, o0, none⟩) S.length sc, .slice wa L.length wc], 25), (b2, #[.slice none 0 0, .slice none 0 0], 38), (b3, #[.slice a k c, .slice none 0 0], 38)] [⟨.slice a k c, 92, 20, k, LS T⟩, ⟨.slice (some ⟨gB, 0, none⟩) 1 1, 92, 20, 1, cS t1⟩] [(fun V => ∀ t ∈ (T : List Sht), V.ownsRow w.heap.size 3 1 (.slice t.ha t.hn t.hc) t.hn (L1 t.hs)), (fun V => V.ownsRow w.heap.size 3 1 (.slice t1.ha t1.hn t1.hc) t1.hn (L1 t1.hs))] from hcc) (fun _ hX => ⟨hX.cell 0 0 rfl rfl, hX.cell 0 1 rfl rfl, (HR.out _ hX.be), trivial⟩) ?_
          intro VS_2 hc hHS_2
          have hVS_2 := Lib.hid hc
          clear hc hKq Kq hVS_1 hcc hHS_1
          try simp only [Act.put, List.setIfInBounds_toArray, List.set_cons_zero, List.set_cons_succ]
          refine wpAnyH_ready (rs := [1]) (by kernel_rfl) (by simp) ?_
          refine AllReadyH.cons (o := ⟨_, _, _, _, _, _⟩) rfl (fun Kq hKq => ?_) AllReadyH.nil
          have cQ0 := hVS_2.out.cell 2 0 rfl rfl
          go_simp
          refine stepY hKq (show Sy w _ [(b1, #[.slice (some ⟨g0, o0, none⟩) S.length sc, .slice wa L.length wc], 25), (b2, #[.slice none 0 0, .slice none 0 0], 38), (b3, #[.slice a k c, .slice none 0 0], 38)] [⟨.slice a k c, 92, 20, k, LS T⟩, ⟨.slice (some ⟨gB, 0, none⟩) 1 1, 92, 20, 1, cS t1⟩] [(fun V => ∀ t ∈ (T : List Sht), V.ownsRow w.heap.size 3 1 (.slice t.ha t.hn t.hc) t.hn (L1 t.hs)), (fun V => V.ownsRow w.heap.size 3 1 (.slice t1.ha t1.hn t1.hc) t1.hn (L1 t1.hs))] from hVS_2.out) (fun _ hX => ⟨hX.cell 0 0 rfl rfl, hX.cell 0 1 rfl rfl, (HR.out _ hX.be), trivial⟩) ?_
          intro VS_3 hc hHS_3
          have hVS_3 := Lib.hid hc
          clear hc hKq Kq hVS_2 cQ0 hHS_2
          try simp only [Act.put, List.setIfInBounds_toArray, List.set_cons_zero, List.set_cons_succ]
          refine wpAnyH_ready (rs := [9]) (by kernel_rfl) (by simp) ?_
          refine AllReadyH.cons (o := ⟨_, _, _, _, _, _⟩) rfl (fun Kq hKq => ?_) AllReadyH.nil
          rw [if_pos (by rfl)]
          refine op_append_sy hVS_3.out 0 1 rfl rfl _ _ _ rfl und_Sheets info_Sheet3 rfl (by omega) rfl rfl (cS_ones _) (by omega) (by omega) (fun aA cA _ hcc => ?_)
          refine stepY hKq (show Sy w _ [(b1, #[.slice (some ⟨g0, o0, none⟩) S.length sc, .slice wa L.length wc], 25), (b2, #[.slice none 0 0, .slice none 0 0], 38), (b3, #[.slice a k c, .slice none 0 0], 38)] [⟨.slice aA (k + 1) cA, 92, 20, k + 1, LS T ++ cS t1⟩, ⟨.slice (some ⟨gB, 0, none⟩) 1 1, 92, 20, 1, cS t1⟩] [(fun V => ∀ t ∈ (T : List Sht), V.ownsRow w.heap.size 3 1 (.slice t.ha t.hn t.hc) t.hn (L1 t.hs)), (fun V => V.ownsRow w.heap.size 3 1 (.slice t1.ha t1.hn t1.hc) t1.hn (L1 t1.hs))] from hcc) (fun _ hX => ⟨hX.cell 0 0 rfl rfl, hX.cell 0 1 rfl rfl, (HR.out _ hX.be), trivial⟩) ?_
          intro VS_4 hc hHS_4
          have hVS_4 := Lib.hid hc
          clear hc hKq Kq hVS_3 hcc hHS_3
          try simp only [Act.put, List.setIfInBounds_toArray, List.set_cons_zero, List.set_cons_succ]
          refine wpAnyH_take (i := 10) (oi := ⟨_, _, _, _, _, _⟩) (v := ?_) rfl (by kernel_rfl) (by kernel_rfl) (by kernel_rfl) (fun _ _ _ h => h) (Or.inl ⟨by rfl, ?_⟩) hHS_4 ?_
          rotate_left
          · intro wS hSw; (try dsimp only at hSw); go_simp; try with_reducible rfl
          try simp only [Act.put, List.setIfInBounds_toArray, List.set_cons_zero, List.set_cons_succ]
          refine wpAnyH_ready (rs := [11]) (by kernel_rfl) (by simp) ?_
          refine AllReadyH.cons (o := ⟨_, _, _, _, _, _⟩) rfl (fun Kq hKq => ?_) AllReadyH.nil
          have cQ0 := hVS_4.out.cell 2 0 rfl rfl
          have fQ0 := hVS_4.out.free 2 0 rfl
          go_simp
          refine stepY hKq (show Sy w _ [(b1, #[.slice (some ⟨g0, o0, none⟩) S.length sc, .slice wa L.length wc], 25), (b2, #[.slice none 0 0, .slice none 0 0], 38), (b3, #[.slice aA (k + 1) cA, .slice none 0 0], 38)] [⟨.slice aA (k + 1) cA, 92, 20, k + 1, LS T ++ cS t1⟩, ⟨.slice (some ⟨gB, 0, none⟩) 1 1, 92, 20, 1, cS t1⟩] [(fun V => ∀ t ∈ (T : List Sht), V.ownsRow w.heap.size 3 1 (.slice t.ha t.hn t.hc) t.hn (L1 t.hs)), (fun V => V.ownsRow w.heap.size 3 1 (.slice t1.ha t1.hn t1.hc) t1.hn (L1 t1.hs))] from (hVS_4.out |>.set (j := 0) (v := .slice aA (k + 1) cA) 2 rfl)) (fun _ hX => ⟨hX.cell 0 0 rfl rfl, hX.cell 0 1 rfl rfl, (HR.out _ hX.be), trivial⟩) ?_
          intro VS_5 hc hHS_5
          have hVS_5 := Lib.hid hc
          clear hc hKq Kq hVS_4 cQ0 fQ0 hHS_4
          try simp only [Act.put]
          refine wpAnyH_done (by kernel_rfl) ?_ _
          have hF := Lib.hid ((hVS_5.out.thin (List.Sublist.refl _) (List.Sublist.cons_cons _ (List.nil_sublist _))).imp (rs' := [(fun V => ∀ t ∈ ((T ++ [t1]) : List Sht), V.ownsRow w.heap.size 3 1 (.slice t.ha t.hn t.hc) t.hn (L1 t.hs))]) (fun V h r hr => by
            rcases List.mem_singleton.1 hr with rfl
            intro t ht
            rcases List.mem_append.1 ht with ht | ht
            · exact h _ (List.mem_cons_self ..) t ht
            · rcases List.mem_singleton.1 ht with rfl
              exact h _ (List.mem_cons_of_mem _ (List.mem_cons_self ..))))
          rw [show LS T ++ cS t1 = LS (T ++ [t1]) by simp [LS]] at hF
          clear hVS_5
          go_wp2
          go_roundw
          case rel => exact ⟨k + 1, aA, cA, T ++ [t1], by omega, by go_num, Lib.hid (HN.out t1 ht1.out), hF⟩
          case measure => simp [intOf]; omega
        exact AllReadyH.nil
      exact AllReadyH.nil
    · have hkk : ¬ (k : Int) < (S.length : Int) := by omega
      obtain rfl : k = S.length := by omega
      rw [List.take_length] at HT
      obtain ⟨a1, rfl⟩ : ∃ a1, a1 = a := ⟨_, rfl⟩
      obtain ⟨c1, rfl⟩ : ∃ c1, c1 = c := ⟨_, rfl⟩
      have hC0 := Lib.hid (((hC.out.onil 91 4).push (r := (fun V => ∀ y ∈ (([] : List Wal) : List Wal), V.ownsRow w.heap.size 95 5 (.slice y.oa y.on y.oc) y.on (LO y.ops))) (fun V _ t ht => absurd ht (by simp))))
      clear hC
      have hC : Hid (Sy w wr [(b1, #[.slice sa S.length sc, .slice wa L.length wc], 25), (b2, #[.slice none 0 0, .slice none 0 0], 38), (b3, #[.slice a1 S.length c1, .slice none 0 0], 38)] [⟨.slice a1 S.length c1, 92, 20, S.length, LS T⟩, ⟨.slice none 0 0, 91, 4, 0, LWa []⟩] [(fun V => ∀ t ∈ (T : List Sht), V.ownsRow w.heap.size 3 1 (.slice t.ha t.hn t.hc) t.hn (L1 t.hs)), (fun V => ∀ y ∈ ([] : List Wal), V.ownsRow w.heap.size 95 5 (.slice y.oa y.on y.oc) y.on (LO y.ops))]) := hC0
      clear hC0
      go_wp2
      go_loopw [5] (fun iv wr => ∃ (k : Nat) (a : Option Addr) (c : Nat) (M : List Wal), k ≤ L.length ∧ iv = .int .i64 k ∧ Hid (M.map nW = (L.take k).map nW) ∧ Hid (Sy w wr [(b1, #[.slice sa S.length sc, .slice wa L.length wc], 25), (b2, #[.slice none 0 0, .slice none 0 0], 38), (b3, #[.slice a1 S.length c1, .slice a k c], 38)] [⟨.slice a1 S.length c1, 92, 20, S.length, LS T⟩, ⟨.slice a k c, 91, 4, k, LWa M⟩] [(fun V => ∀ t ∈ (T : List Sht), V.ownsRow w.heap.size 3 1 (.slice t.ha t.hn t.hc) t.hn (L1 t.hs)), (fun V => ∀ y ∈ (M : List Wal), V.ownsRow w.heap.size 95 5 (.slice y.oa y.on y.oc) y.on (LO y.ops))])) (fun iv _ => L.length - (intOf iv).toNat)
      case atStart => exact ⟨0, none, 0, [], Nat.zero_le _, rfl, Lib.hid rfl, hC⟩
      case round =>
        clear hC x0 hkk hlt hk
        obtain ⟨k, a, c, M, hk, rfl, HM, hC⟩ := hrel
        have x1 : wr.cell? ⟨b1, 1, none⟩ = some (.slice wa L.length wc) := hC.out.cell 0 1 rfl rfl
        by_cases hlt : k < L.length
        · obtain ⟨g0, o0, rfl⟩ := HL.out.row.addr (by omega)
          have HR := Lib.hid (fun W (hW : Below w.heap.size w W) => (HL.out.row.below hW).range (f := cWa) (fun _ => rfl) hlt)
          have HC := Lib.hid (fun W (hW : Below w.heap.size w W) => lWall_c W L[k] ((HL.out.opn _ (List.getElem_mem hlt)).below hW) (H3.out _ (List.getElem_mem hlt)))
          have HN := Lib.hid (show ∀ t, nW t = nW L[k] → (M ++ [t]).map nW = (L.take (k + 1)).map nW from fun t ht => by rw [List.take_succ_eq_append_getElem hlt, List.map_append, List.map_append, HM.out, List.map_cons, List.map_cons, ht])
          have i0 : (0 : Int) ≤ (k : Int) := by omega
          have i1 : (k : Int) < (L.length : Int) := by omega
          clear HM
          generalize L[k] = x at *
          obtain ⟨V, hV⟩ : ∃ V, Value.agg (cWa x).toArray = V := ⟨_, rfl⟩
          have HV := Lib.hid hV
          rw [show aW x = V from hV] at HC
          clear hV
          go_upto_region 9 with fail
          clear x1
          refine wp_region_held_drew (S := (fun w' => w'.cell? ⟨b1, 0, none⟩ = some (.slice sa S.length sc) ∧ w'.cell? ⟨b1, 1, none⟩ = some (.slice (some ⟨g0, o0, none⟩) L.length wc) ∧ w'.rangeAt g0 (o0 + k * 4) (cWa x) ∧ True)) (by kernel_rfl) ⟨hC.out.drew.cell 0 0 rfl rfl, hC.out.drew.cell 0 1 rfl rfl, (HR.out _ hC.out.drew.be), trivial⟩ (fun hH => ?_)
          refine wpAnyH_geny (show Sy w _ [(b1, #[.slice sa S.length sc, .slice (some ⟨g0, o0, none⟩) L.length wc], 25), (b2, #[.slice none 0 0, .slice none 0 0], 38), (b3, #[.slice a1 S.length c1, .slice a k c], 38)] [⟨.slice a1 S.length c1, 92, 20, S.length, LS T⟩, ⟨.slice a k c, 91, 4, k, LWa M⟩] [(fun V => ∀ t ∈ (T : List Sht), V.ownsRow w.heap.size 3 1 (.slice t.ha t.hn t.hc) t.hn (L1 t.hs)), (fun V => ∀ y ∈ (M : List Wal), V.ownsRow w.heap.size 95 5 (.slice y.oa y.on y.oc) y.on (LO y.ops))] from hC.out.drew) hH ?_
          intro VL_0 hc hHL_0
          have hVL_0 := Lib.hid hc
          clear hc hH hC
          refine wpAnyH_take (i := 0) (oi := ⟨_, _, _, _, _, _⟩) (v := ?_) rfl (by kernel_rfl) (by kernel_rfl) (by kernel_rfl) (fun _ _ _ h => h) (Or.inl ⟨by rfl, ?_⟩) hHL_0 ?_
          rotate_left
          · intro wS hSw; (try dsimp only at hSw); go_simp; try with_reducible rfl
          try simp only [Act.put, List.setIfInBounds_toArray, List.set_cons_zero, List.set_cons_succ]
          refine wpAnyH_take (i := 2) (oi := ⟨_, _, _, _, _, _⟩) (v := ?_) rfl (by kernel_rfl) (by kernel_rfl) (by kernel_rfl) (fun _ _ _ h => h) (Or.inl ⟨by rfl, ?_⟩) hHL_0 ?_
          rotate_left
          · intro wS hSw; (try dsimp only at hSw); go_simp; try with_reducible rfl
          try simp only [Act.put, List.setIfInBounds_toArray, List.set_cons_zero, List.set_cons_succ]
          refine wpAnyH_take (i := 3) (oi := ⟨_, _, _, _, _, _⟩) (v := ?_) rfl (by kernel_rfl) (by kernel_rfl) (by kernel_rfl) (fun _ _ _ h => h) (Or.inl ⟨by rfl, ?_⟩) hHL_0 ?_
          rotate_left
          · intro wS hSw; (try dsimp only at hSw); go_simp; try with_reducible rfl
          try simp only [Act.put, List.setIfInBounds_toArray, List.set_cons_zero, List.set_cons_succ]
          refine wpAnyH_take (i := 4) (oi := ⟨_, _, _, _, _, _⟩) (v := ?_) rfl (by kernel_rfl) (by kernel_rfl) (by kernel_rfl) (fun _ _ _ h => h) (Or.inl ⟨by rfl, ?_⟩) hHL_0 ?_
          rotate_left
          · intro wS hSw; (try dsimp only at hSw); go_simp; try with_reducible rfl
          try simp only [Act.put, List.setIfInBounds_toArray, List.set_cons_zero, List.set_cons_succ]
          refine wpAnyH_take (i := 5) (oi := ⟨_, _, _, _, _, _⟩) (v := ?_) rfl (by kernel_rfl) (by kernel_rfl) (by kernel_rfl) (fun _ _ _ h => h) (Or.inl ⟨by rfl, ?_⟩) hHL_0 ?_
          rotate_left
          · intro wS hSw; (try dsimp only at hSw); go_simp; try with_reducible rfl
          try simp only [Act.put, List.setIfInBounds_toArray, List.set_cons_zero, List.set_cons_succ]
          refine wpAnyH_take (i := 6) (oi := ⟨_, _, _, _, _, _⟩) (v := V) rfl (by kernel_rfl) (by kernel_rfl) (by kernel_rfl) (fun _ _ _ h => h) (yieldsIf_ld (by rfl) _ _ rfl g0 (o0 + k * 4) rfl (cWa x) _ (fun _ h => h.2.2.1) Tryz.underlying51 rfl info_RWall V HV.out) hHL_0 ?_
          try simp only [Act.put, List.setIfInBounds_toArray, List.set_cons_zero, List.set_cons_succ]
          refine wpAnyH_ready (rs := [1, 7]) (by kernel_rfl) (by simp) ?_
          refine AllReadyH.cons (o := ⟨_, _, _, _, _, _⟩) rfl (fun Kq hKq => ?_) ?_
          · have cQ0 := hVL_0.out.cell 2 1 rfl rfl
            go_simp
            refine stepY hKq (show Sy w _ [(b1, #[.slice sa S.length sc, .slice (some ⟨g0, o0, none⟩) L.length wc], 25), (b2, #[.slice none 0 0, .slice none 0 0], 38), (b3, #[.slice a1 S.length c1, .slice a k c], 38)] [⟨.slice a1 S.length c1, 92, 20, S.length, LS T⟩, ⟨.slice a k c, 91, 4, k, LWa M⟩] [(fun V => ∀ t ∈ (T : List Sht), V.ownsRow w.heap.size 3 1 (.slice t.ha t.hn t.hc) t.hn (L1 t.hs)), (fun V => ∀ y ∈ (M : List Wal), V.ownsRow w.heap.size 95 5 (.slice y.oa y.on y.oc) y.on (LO y.ops))] from hVL_0.out) (fun _ hX => ⟨hX.cell 0 0 rfl rfl, hX.cell 0 1 rfl rfl, (HR.out _ hX.be), trivial⟩) ?_
            intro VL_1 hc hHL_1
            have hVL_1 := Lib.hid hc
            clear hc hKq Kq hVL_0 cQ0 hHL_0
            try simp only [Act.put, List.setIfInBounds_toArray, List.set_cons_zero, List.set_cons_succ]
            refine wpAnyH_ready (rs := [7]) (by kernel_rfl) (by simp) ?_
            refine AllReadyH.cons (o := ⟨_, _, _, _, _, _⟩) rfl (fun Kq hKq => ?_) AllReadyH.nil
            go_simp
            go_at_call 33
            refine (HC.out _ hVL_1.out.be).mono ?_
            rintro e wT ⟨t1, U1, ht1, hU1, rfl, hr1, hb⟩
            (try go_wp2_with fail)
            refine stepY hKq (show Sy w _ [(b1, #[.slice sa S.length sc, .slice (some ⟨g0, o0, none⟩) L.length wc], 25), (b2, #[.slice none 0 0, .slice none 0 0], 38), (b3, #[.slice a1 S.length c1, .slice a k c], 38)] [⟨.slice a1 S.length c1, 92, 20, S.length, LS T⟩, ⟨.slice a k c, 91, 4, k, LWa M⟩] [(fun V => ∀ t ∈ (T : List Sht), V.ownsRow w.heap.size 3 1 (.slice t.ha t.hn t.hc) t.hn (L1 t.hs)), (fun V => ∀ y ∈ (M : List Wal), V.ownsRow w.heap.size 95 5 (.slice y.oa y.on y.oc) y.on (LO y.ops)), (fun V => V.ownsRow w.heap.size 95 5 (.slice t1.oa t1.on t1.oc) t1.on (LO t1.ops))] from (hVL_1.out.pushFresh hb hr1.out)) (fun _ hX => ⟨hX.cell 0 0 rfl rfl, hX.cell 0 1 rfl rfl, (HR.out _ hX.be), trivial⟩) ?_
            intro VL_2 hc hHL_2
            have hVL_2 := Lib.hid hc
            clear hc hKq Kq hVL_1 hb hr1 hHL_1
            try simp only [Act.put, List.setIfInBounds_toArray, List.set_cons_zero, List.set_cons_succ]
            refine wpAnyH_ready (rs := [8]) (by kernel_rfl) (by simp) ?_
            refine AllReadyH.cons (o := ⟨_, _, _, _, _, _⟩) rfl (fun Kq hKq => ?_) AllReadyH.nil
            rw [if_pos (by rfl)]
            refine op_bs hVL_2.out _ 91 _ rfl 4 zW (cWa t1).toArray U1 und_Walls info_Wall2 (by omega) (by omega) rfl (by rw [hU1.out]; exact fill_wall t1) rfl (fun gB _ hcc => ?_)
            refine stepY hKq (show Sy w _ [(b1, #[.slice sa S.length sc, .slice (some ⟨g0, o0, none⟩) L.length wc], 25), (b2, #[.slice none 0 0, .slice none 0 0], 38), (b3, #[.slice a1 S.length c1, .slice a k c], 38)] [⟨.slice a1 S.length c1, 92, 20, S.length, LS T⟩, ⟨.slice a k c, 91, 4, k, LWa M⟩, ⟨.slice (some ⟨gB, 0, none⟩) 1 1, 91, 4, 1, cWa t1⟩] [(fun V => ∀ t ∈ (T : List Sht), V.ownsRow w.heap.size 3 1 (.slice t.ha t.hn t.hc) t.hn (L1 t.hs)), (fun V => ∀ y ∈ (M : List Wal), V.ownsRow w.heap.size 95 5 (.slice y.oa y.on y.oc) y.on (LO y.ops)), (fun V => V.ownsRow w.heap.size 95 5 (.slice t1.oa t1.on t1.oc) t1.on (LO t1.ops))] from hcc) (fun _ hX => ⟨hX.cell 0 0 rfl rfl, hX.cell 0 1 rfl rfl, (HR.out _ hX.be), trivial⟩) ?_
            intro VL_3 hc hHL_3
            have hVL_3 := Lib.hid hc
            clear hc hKq Kq hVL_2 hcc hHL_2
            try simp only [Act.put, List.setIfInBounds_toArray, List.set_cons_zero, List.set_cons_succ]
            refine wpAnyH_ready (rs := [9]) (by kernel_rfl) (by simp) ?_
            refine AllReadyH.cons (o := ⟨_, _, _, _, _, _⟩) rfl (fun Kq hKq => ?_) AllReadyH.nil
            rw [if_pos (by rfl)]
            refine op_append_sy hVL_3.out 1 2 rfl rfl _ _ _ rfl und_Walls info_Wall3 rfl (by omega) rfl rfl (cWa_ones _) (by omega) (by omega) (fun aA cA _ hcc => ?_)
            refine stepY hKq (show Sy w _ [(b1, #[.slice sa S.length sc, .slice (some ⟨g0, o0, none⟩) L.length wc], 25), (b2, #[.slice none 0 0, .slice none 0 0], 38), (b3, #[.slice a1 S.length c1, .slice a k c], 38)] [⟨.slice a1 S.length c1, 92, 20, S.length, LS T⟩, ⟨.slice aA (k + 1) cA, 91, 4, k + 1, LWa M ++ cWa t1⟩, ⟨.slice (some ⟨gB, 0, none⟩) 1 1, 91, 4, 1, cWa t1⟩] [(fun V => ∀ t ∈ (T : List Sht), V.ownsRow w.heap.size 3 1 (.slice t.ha t.hn t.hc) t.hn (L1 t.hs)), (fun V => ∀ y ∈ (M : List Wal), V.ownsRow w.heap.size 95 5 (.slice y.oa y.on y.oc) y.on (LO y.ops)), (fun V => V.ownsRow w.heap.size 95 5 (.slice t1.oa t1.on t1.oc) t1.on (LO t1.ops))] from hcc) (fun _ hX => ⟨hX.cell 0 0 rfl rfl, hX.cell 0 1 rfl rfl, (HR.out _ hX.be), trivial⟩) ?_
            intro VL_4 hc hHL_4
            have hVL_4 := Lib.hid hc
            clear hc hKq Kq hVL_3 hcc hHL_3
            try simp only [Act.put, List.setIfInBounds_toArray, List.set_cons_zero, List.set_cons_succ]
            refine wpAnyH_take (i := 10) (oi := ⟨_, _, _, _, _, _⟩) (v := ?_) rfl (by kernel_rfl) (by kernel_rfl) (by kernel_rfl) (fun _ _ _ h => h) (Or.inl ⟨by rfl, ?_⟩) hHL_4 ?_
            rotate_left
            · intro wS hSw; (try dsimp only at hSw); go_simp; try with_reducible rfl
            try simp only [Act.put, List.setIfInBounds_toArray, List.set_cons_zero, List.set_cons_succ]
            refine wpAnyH_ready (rs := [11]) (by kernel_rfl) (by simp) ?_
            refine AllReadyH.cons (o := ⟨_, _, _, _, _, _⟩) rfl (fun Kq hKq => ?_) AllReadyH.nil
            have cQ0 := hVL_4.out.cell 2 1 rfl rfl
            have fQ0 := hVL_4.out.free 2 1 rfl
            go_simp
            refine stepY hKq (show Sy w _ [(b1, #[.slice sa S.length sc, .slice (some ⟨g0, o0, none⟩) L.length wc], 25), (b2, #[.slice none 0 0, .slice none 0 0], 38), (b3, #[.slice a1 S.length c1, .slice aA (k + 1) cA], 38)] [⟨.slice a1 S.length c1, 92, 20, S.length, LS T⟩, ⟨.slice aA (k + 1) cA, 91, 4, k + 1, LWa M ++ cWa t1⟩, ⟨.slice (some ⟨gB, 0, none⟩) 1 1, 91, 4, 1, cWa t1⟩] [(fun V => ∀ t ∈ (T : List Sht), V.ownsRow w.heap.size 3 1 (.slice t.ha t.hn t.hc) t.hn (L1 t.hs)), (fun V => ∀ y ∈ (M : List Wal), V.ownsRow w.heap.size 95 5 (.slice y.oa y.on y.oc) y.on (LO y.ops)), (fun V => V.ownsRow w.heap.size 95 5 (.slice t1.oa t1.on t1.oc) t1.on (LO t1.ops))] from (hVL_4.out |>.set (j := 1) (v := .slice aA (k + 1) cA) 2 rfl)) (fun _ hX => ⟨hX.cell 0 0 rfl rfl, hX.cell 0 1 rfl rfl, (HR.out _ hX.be), trivial⟩) ?_
            intro VL_5 hc hHL_5
            have hVL_5 := Lib.hid hc
            clear hc hKq Kq hVL_4 cQ0 fQ0 hHL_4
            try simp only [Act.put]
            refine wpAnyH_done (by kernel_rfl) ?_ _
            have hF := Lib.hid ((hVL_5.out.thin (List.Sublist.refl _) (List.Sublist.cons_cons _ (List.Sublist.cons_cons _ (List.nil_sublist _)))).imp (rs' := [(fun V => ∀ t ∈ (T : List Sht), V.ownsRow w.heap.size 3 1 (.slice t.ha t.hn t.hc) t.hn (L1 t.hs)), (fun V => ∀ y ∈ ((M ++ [t1]) : List Wal), V.ownsRow w.heap.size 95 5 (.slice y.oa y.on y.oc) y.on (LO y.ops))]) (fun V h r hr => by
              rcases List.mem_cons.1 hr with rfl | hr
              · exact h _ (List.mem_cons_self ..)
              · rcases List.mem_singleton.1 hr with rfl
                intro t ht
                rcases List.mem_append.1 ht with ht | ht
                · exact h _ (List.mem_cons_of_mem _ (List.mem_cons_self ..)) t ht
                · rcases List.mem_singleton.1 ht with rfl
                  exact h _ (List.mem_cons_of_mem _ (List.mem_cons_of_mem _ (List.mem_cons_self ..)))))
            rw [show LWa M ++ cWa t1 = LWa (M ++ [t1]) by simp [LWa]] at hF
            clear hVL_5
            go_wp2
            go_roundw
            case rel => exact ⟨k + 1, aA, cA, M ++ [t1], by omega, by go_num, Lib.hid (HN.out t1 ht1.out), hF⟩
            case measure => simp [intOf]; omega
          refine AllReadyH.cons (o := ⟨_, _, _, _, _, _⟩) rfl (fun Kq hKq => ?_) ?_
          · go_simp
            go_at_call 33
            refine (HC.out _ hVL_0.out.be).mono ?_
            rintro e wT ⟨t1, U1, ht1, hU1, rfl, hr1, hb⟩
            (try go_wp2_with fail)
            refine stepY hKq (show Sy w _ [(b1, #[.slice sa S.length sc, .slice (some ⟨g0, o0, none⟩) L.length wc], 25), (b2, #[.slice none 0 0, .slice none 0 0], 38), (b3, #[.slice a1 S.length c1, .slice a k c], 38)] [⟨.slice a1 S.length c1, 92, 20, S.length, LS T⟩, ⟨.slice a k c, 91, 4, k, LWa M⟩] [(fun V => ∀ t ∈ (T : List Sht), V.ownsRow w.heap.size 3 1 (.slice t.ha t.hn t.hc) t.hn (L1 t.hs)), (fun V => ∀ y ∈ (M : List Wal), V.ownsRow w.heap.size 95 5 (.slice y.oa y.on y.oc) y.on (LO y.ops)), (fun V => V.ownsRow w.heap.size 95 5 (.slice t1.oa t1.on t1.oc) t1.on (LO t1.ops))] from (hVL_0.out.pushFresh hb hr1.out)) (fun _ hX => ⟨hX.cell 0 0 rfl rfl, hX.cell 0 1 rfl rfl, (HR.out _ hX.be), trivial⟩) ?_
            intro VL_1 hc hHL_1
            have hVL_1 := Lib.hid hc
            clear hc hKq Kq hVL_0 hb hr1 hHL_0
            try simp only [Act.put, List.setIfInBounds_toArray, List.set_cons_zero, List.set_cons_succ]
            refine wpAnyH_ready (rs := [1, 8]) (by kernel_rfl) (by simp) ?_
            refine AllReadyH.cons (o := ⟨_, _, _, _, _, _⟩) rfl (fun Kq hKq => ?_) ?_
            · have cQ0 := hVL_1.out.cell 2 1 rfl rfl
              go_simp
              refine stepY hKq (show Sy w _ [(b1, #[.slice sa S.length sc, .slice (some ⟨g0, o0, none⟩) L.length wc], 25), (b2, #[.slice none 0 0, .slice none 0 0], 38), (b3, #[.slice a1 S.length c1, .slice a k c], 38)] [⟨.slice a1 S.length c1, 92, 20, S.length, LS T⟩, ⟨.slice a k c, 91, 4, k, LWa M⟩] [(fun V => ∀ t ∈ (T : List Sht), V.ownsRow w.heap.size 3 1 (.slice t.ha t.hn t.hc) t.hn (L1 t.hs)), (fun V => ∀ y ∈ (M : List Wal), V.ownsRow w.heap.size 95 5 (.slice y.oa y.on y.oc) y.on (LO y.ops)), (fun V => V.ownsRow w.heap.size 95 5 (.slice t1.oa t1.on t1.oc) t1.on (LO t1.ops))] from hVL_1.out) (fun _ hX => ⟨hX.cell 0 0 rfl rfl, hX.cell 0 1 rfl rfl, (HR.out _ hX.be), trivial⟩) ?_
              intro VL_2 hc hHL_2
              have hVL_2 := Lib.hid hc
              clear hc hKq Kq hVL_1 cQ0 hHL_1
              try simp only [Act.put, List.setIfInBounds_toArray, List.set_cons_zero, List.set_cons_succ]
              refine wpAnyH_ready (rs := [8]) (by kernel_rfl) (by simp) ?_
              refine AllReadyH.cons (o := ⟨_, _, _, _, _, _⟩) rfl (fun Kq hKq => ?_) AllReadyH.nil
              rw [if_pos (by rfl)]
              refine op_bs hVL_2.out _ 91 _ rfl 4 zW (cWa t1).toArray U1 und_Walls info_Wall2 (by omega) (by omega) rfl (by rw [hU1.out]; exact fill_wall t1) rfl (fun gB _ hcc => ?_)
              refine stepY hKq (show Sy w _ [(b1, #[.slice sa S.length sc, .slice (some ⟨g0, o0, none⟩) L.length wc], 25), (b2, #[.slice none 0 0, .slice none 0 0], 38), (b3, #[.slice a1 S.length c1, .slice a k c], 38)] [⟨.slice a1 S.length c1, 92, 20, S.length, LS T⟩, ⟨.slice a k c, 91, 4, k, LWa M⟩, ⟨.slice (some ⟨gB, 0, none⟩) 1 1, 91, 4, 1, cWa t1⟩] [(fun V => ∀ t ∈ (T : List Sht), V.ownsRow w.heap.size 3 1 (.slice t.ha t.hn t.hc) t.hn (L1 t.hs)), (fun V => ∀ y ∈ (M : List Wal), V.ownsRow w.heap.size 95 5 (.slice y.oa y.on y.oc) y.on (LO y.ops)), (fun V => V.ownsRow w.heap.size 95 5 (.slice t1.oa t1.on t1.oc) t1.on (LO t1.ops))] from hcc) (fun _ hX => ⟨hX.cell 0 0 rfl rfl, hX.cell 0 1 rfl rfl, (HR.out _ hX.be), trivial⟩) ?_
              intro VL_3 hc hHL_3
              have hVL_3 := Lib.hid hc
              clear hc hKq Kq hVL_2 hcc hHL_2
              try simp only [Act.put, List.setIfInBounds_toArray, List.set_cons_zero, List.set_cons_succ]
              refine wpAnyH_ready (rs := [9]) (by kernel_rfl) (by simp) ?_
              refine AllReadyH.cons (o := ⟨_, _, _, _, _, _⟩) rfl (fun Kq hKq => ?_) AllReadyH.nil
              rw [if_pos (by rfl)]
              refine op_append_sy hVL_3.out 1 2 rfl rfl _ _ _ rfl und_Walls info_Wall3 rfl (by omega) rfl rfl (cWa_ones _) (by omega) (by omega) (fun aA cA _ hcc => ?_)
              refine stepY hKq (show Sy w _ [(b1, #[.slice sa S.length sc, .slice (some ⟨g0, o0, none⟩) L.length wc], 25), (b2, #[.slice none 0 0, .slice none 0 0], 38), (b3, #[.slice a1 S.length c1, .slice a k c], 38)] [⟨.slice a1 S.length c1, 92, 20, S.length, LS T⟩, ⟨.slice aA (k + 1) cA, 91, 4, k + 1, LWa M ++ cWa t1⟩, ⟨.slice (some ⟨gB, 0, none⟩) 1 1, 91, 4, 1, cWa t1⟩] [(fun V => ∀ t ∈ (T : List Sht), V.ownsRow w.heap.size 3 1 (.slice t.ha t.hn t.hc) t.hn (L1 t.hs)), (fun V => ∀ y ∈ (M : List Wal), V.ownsRow w.heap.size 95 5 (.slice y.oa y.on y.oc) y.on (LO y.ops)), (fun V => V.ownsRow w.heap.size 95 5 (.slice t1.oa t1.on t1.oc) t1.on (LO t1.ops))] from hcc) (fun _ hX => ⟨hX.cell 0 0 rfl rfl, hX.cell 0 1 rfl rfl, (HR.out _ hX.be), trivial⟩) ?_
              intro VL_4 hc hHL_4
              have hVL_4 := Lib.hid hc
              clear hc hKq Kq hVL_3 hcc hHL_3
              try simp only [Act.put, List.setIfInBounds_toArray, List.set_cons_zero, List.set_cons_succ]
              refine wpAnyH_take (i := 10) (oi := ⟨_, _, _, _, _, _⟩) (v := ?_) rfl (by kernel_rfl) (by kernel_rfl) (by kernel_rfl) (fun _ _ _ h => h) (Or.inl ⟨by rfl, ?_⟩) hHL_4 ?_
              rotate_left
              · intro wS hSw; (try dsimp only at hSw); go_simp; try with_reducible rfl
              try simp only [Act.put, List.setIfInBounds_toArray, List.set_cons_zero, List.set_cons_succ]
              refine wpAnyH_ready (rs := [11]) (by kernel_rfl) (by simp) ?_
              refine AllReadyH.cons (o := ⟨_, _, _, _, _, _⟩) rfl (fun Kq hKq => ?_) AllReadyH.nil
              have cQ0 := hVL_4.out.cell 2 1 rfl rfl
              have fQ0 := hVL_4.out.free 2 1 rfl
              go_simp
              refine stepY hKq (show Sy w _ [(b1, #[.slice sa S.length sc, .slice (some ⟨g0, o0, none⟩) L.length wc], 25), (b2, #[.slice none 0 0, .slice none 0 0], 38), (b3, #[.slice a1 S.length c1, .slice aA (k + 1) cA], 38)] [⟨.slice a1 S.length c1, 92, 20, S.length, LS T⟩, ⟨.slice aA (k + 1) cA, 91, 4, k + 1, LWa M ++ cWa t1⟩, ⟨.slice (some ⟨gB, 0, none⟩) 1 1, 91, 4, 1, cWa t1⟩] [(fun V => ∀ t ∈ (T : List Sht), V.ownsRow w.heap.size 3 1 (.slice t.ha t.hn t.hc) t.hn (L1 t.hs)), (fun V => ∀ y ∈ (M : List Wal), V.ownsRow w.heap.size 95 5 (.slice y.oa y.on y.oc) y.on (LO y.ops)), (fun V => V.ownsRow w.heap.size 95 5 (.slice t1.oa t1.on t1.oc) t1.on (LO t1.ops))] from (hVL_4.out |>.set (j := 1) (v := .slice aA (k + 1) cA) 2 rfl)) (fun _ hX => ⟨hX.cell 0 0 rfl rfl, hX.cell 0 1 rfl rfl, (HR.out _ hX.be), trivial⟩) ?_
              intro VL_5 hc hHL_5
              have hVL_5 := Lib.hid hc
              clear hc hKq Kq hVL_4 cQ0 fQ0 hHL_4
              try simp only [Act.put]
              refine wpAnyH_done (by kernel_rfl) ?_ _
              have hF := Lib.hid ((hVL_5.out.thin (List.Sublist.refl _) (List.Sublist.cons_cons _ (List.Sublist.cons_cons _ (List.nil_sublist _)))).imp (rs' := [(fun V => ∀ t ∈ (T : List Sht), V.ownsRow w.heap.size 3 1 (.slice t.ha t.hn t.hc) t.hn (L1 t.hs)), (fun V => ∀ y ∈ ((M ++ [t1]) : List Wal), V.ownsRow w.heap.size 95 5 (.slice y.oa y.on y.oc) y.on (LO y.ops))]) (fun V h r hr => by
                rcases List.mem_cons.1 hr with rfl | hr
                · exact h _ (List.mem_cons_self ..)
                · rcases List.mem_singleton.1 hr with rfl
                  intro t ht
                  rcases List.mem_append.1 ht with ht | ht
                  · exact h _ (List.mem_cons_of_mem _ (List.mem_cons_self ..)) t ht
                  · rcases List.mem_singleton.1 ht with rfl
                    exact h _ (List.mem_cons_of_mem _ (List.mem_cons_of_mem _ (List.mem_cons_self ..)))))
              rw [show LWa M ++ cWa t1 = LWa (M ++ [t1]) by simp [LWa]] at hF
              clear hVL_5
              go_wp2
              go_roundw
              case rel => exact ⟨k + 1, aA, cA, M ++ [t1], by omega, by go_num, Lib.hid (HN.out t1 ht1.out), hF⟩
              case measure => simp [intOf]; omega
            refine AllReadyH.cons (o := ⟨_, _, _, _, _, _⟩) rfl (fun Kq hKq => ?_) ?_
            · rw [if_pos (by rfl)]
              refine op_bs hVL_1.out _ 91 _ rfl 4 zW (cWa t1).toArray U1 und_Walls info_Wall2 (by omega) (by omega) rfl (by rw [hU1.out]; exact fill_wall t1) rfl (fun gB _ hcc => ?_)
              refine stepY hKq (show Sy w _ [(b1, #[.slice sa S.length sc, .slice (some ⟨g0, o0, none⟩) L.length wc], 25), (b2, #[.slice none 0 0, .slice none 0 0], 38), (b3, #[.slice a1 S.length c1, .slice a k c], 38)] [⟨.slice a1 S.length c1, 92, 20, S.length, LS T⟩, ⟨.slice a k c, 91, 4, k, LWa M⟩, ⟨.slice (some ⟨gB, 0, none⟩) 1 1, 91, 4, 1, cWa t1⟩] [(fun V => ∀ t ∈ (T : List Sht), V.ownsRow w.heap.size 3 1 (.slice t.ha t.hn t.hc) t.hn (L1 t.hs)), (fun V => ∀ y ∈ (M : List Wal), V.ownsRow w.heap.size 95 5 (.slice y.oa y.on y.oc) y.on (LO y.ops)), (fun V => V.ownsRow w.heap.size 95 5 (.slice t1.oa t1.on t1.oc) t1.on (LO t1.ops))] from hcc) (fun _ hX => ⟨hX.cell 0 0 rfl rfl, hX.cell 0 1 rfl rfl, (HR.out _ hX.be), trivial⟩) ?_
              intro VL_2 hc hHL_2
              have hVL_2 := Lib.hid hc
              clear hc hKq Kq hVL_1 hcc hHL_1
              try simp only [Act.put, List.setIfInBounds_toArray, List.set_cons_zero, List.set_cons_succ]
              refine wpAnyH_ready (rs := [1]) (by kernel_rfl) (by simp) ?_
              refine AllReadyH.cons (o := ⟨_, _, _, _, _, _⟩) rfl (fun Kq hKq => ?_) AllReadyH.nil
              have cQ0 := hVL_2.out.cell 2 1 rfl rfl
              go_simp
              refine stepY hKq (show Sy w _ [(b1, #[.slice sa S.length sc, .slice (some ⟨g0, o0, none⟩) L.length wc], 25), (b2, #[.slice none 0 0, .slice none 0 0], 38), (b3, #[.slice a1 S.length c1, .slice a k c], 38)] [⟨.slice a1 S.length c1, 92, 20, S.length, LS T⟩, ⟨.slice a k c, 91, 4, k, LWa M⟩, ⟨.slice (some ⟨gB, 0, none⟩) 1 1, 91, 4, 1, cWa t1⟩] [(fun V => ∀ t ∈ (T : List Sht), V.ownsRow w.heap.size 3 1 (.slice t.ha t.hn t.hc) t.hn (L1 t.hs)), (fun V => ∀ y ∈ (M : List Wal), V.ownsRow w.heap.size 95 5 (.slice y.oa y.on y.oc) y.on (LO y.ops)), (fun V => V.ownsRow w.heap.size 95 5 (.slice t1.oa t1.on t1.oc) t1.on (LO t1.ops))] from hVL_2.out) (fun _ hX => ⟨hX.cell 0 0 rfl rfl, hX.cell 0 1 rfl rfl, (HR.out _ hX.be), trivial⟩) ?_
              intro VL_3 hc hHL_3
              have hVL_3 := Lib.hid hc
              clear hc hKq Kq hVL_2 cQ0 hHL_2
              try simp only [Act.put, List.setIfInBounds_toArray, List.set_cons_zero, List.set_cons_succ]
              refine wpAnyH_ready (rs := [9]) (by kernel_rfl) (by simp) ?_
              refine AllReadyH.cons (o := ⟨_, _, _, _, _, _⟩) rfl (fun Kq hKq => ?_) AllReadyH.nil
              rw [if_pos (by rfl)]
              refine op_append_sy hVL_3.out 1 2 rfl rfl _ _ _ rfl und_Walls info_Wall3 rfl (by omega) rfl rfl (cWa_ones _) (by omega) (by omega) (fun aA cA _ hcc => ?_)
              refine stepY hKq (show Sy w _ [(b1, #[.slice sa S.length sc, .slice (some ⟨g0, o0, none⟩) L.length wc], 25), (b2, #[.slice none 0 0, .slice none 0 0], 38), (b3, #[.slice a1 S.length c1, .slice a k c], 38)] [⟨.slice a1 S.length c1, 92, 20, S.length, LS T⟩, ⟨.slice aA (k + 1) cA, 91, 4, k + 1, LWa M ++ cWa t1⟩, ⟨.slice (some ⟨gB, 0, none⟩) 1 1, 91, 4, 1, cWa t1⟩] [(fun V => ∀ t ∈ (T : List Sht), V.ownsRow w.heap.size 3 1 (.slice t.ha t.hn t.hc) t.hn (L1 t.hs)), (fun V => ∀ y ∈ (M : List Wal), V.ownsRow w.heap.size 95 5 (.slice y.oa y.on y.oc) y.on (LO y.ops)), (fun V => V.ownsRow w.heap.size 95 5 (.slice t1.oa t1.on t1.oc) t1.on (LO t1.ops))] from hcc) (fun _ hX => ⟨hX.cell 0 0 rfl rfl, hX.cell 0 1 rfl rfl, (HR.out _ hX.be), trivial⟩) ?_
              intro VL_4 hc hHL_4
              have hVL_4 := Lib.hid hc
              clear hc hKq Kq hVL_3 hcc hHL_3
              try simp only [Act.put, List.setIfInBounds_toArray, List.set_cons_zero, List.set_cons_succ]
              refine wpAnyH_take (i := 10) (oi := ⟨_, _, _, _, _, _⟩) (v := ?_) rfl (by kernel_rfl) (by kernel_rfl) (by kernel_rfl) (fun _ _ _ h => h) (Or.inl ⟨by rfl, ?_⟩) hHL_4 ?_
              rotate_left
              · intro wS hSw; (try dsimp only at hSw); go_simp; try with_reducible rfl
              try simp only [Act.put, List.setIfInBounds_toArray, List.set_cons_zero, List.set_cons_succ]
              refine wpAnyH_ready (rs := [11]) (by kernel_rfl) (by simp) ?_
              refine AllReadyH.cons (o := ⟨_, _, _, _, _, _⟩) rfl (fun Kq hKq => ?_) AllReadyH.nil
              have cQ0 := hVL_4.out.cell 2 1 rfl rfl
              have fQ0 := hVL_4.out.free 2 1 rfl
              go_simp
              refine stepY hKq (show Sy w _ [(b1, #[.slice sa S.length sc, .slice (some ⟨g0, o0, none⟩) L.length wc], 25), (b2, #[.slice none 0 0, .slice none 0 0], 38), (b3, #[.slice a1 S.length c1, .slice aA (k + 1) cA], 38)] [⟨.slice a1 S.length c1, 92, 20, S.length, LS T⟩, ⟨.slice aA (k + 1) cA, 91, 4, k + 1, LWa M ++ cWa t1⟩, ⟨.slice (some ⟨gB, 0, none⟩) 1 1, 91, 4, 1, cWa t1⟩] [(fun V => ∀ t ∈ (T : List Sht), V.ownsRow w.heap.size 3 1 (.slice t.ha t.hn t.hc) t.hn (L1 t.hs)), (fun V => ∀ y ∈ (M : List Wal), V.ownsRow w.heap.size 95 5 (.slice y.oa y.on y.oc) y.on (LO y.ops)), (fun V => V.ownsRow w.heap.size 95 5 (.slice t1.oa t1.on t1.oc) t1.on (LO t1.ops))] from (hVL_4.out |>.set (j := 1) (v := .slice aA (k + 1) cA) 2 rfl)) (fun _ hX => ⟨hX.cell 0 0 rfl rfl, hX.cell 0 1 rfl rfl, (HR.out _ hX.be), trivial⟩) ?_
              intro VL_5 hc hHL_5
              have hVL_5 := Lib.hid hc
              clear hc hKq Kq hVL_4 cQ0 fQ0 hHL_4
              try simp only [Act.put]
              refine wpAnyH_done (by kernel_rfl) ?_ _
              have hF := Lib.hid ((hVL_5.out.thin (List.Sublist.refl _) (List.Sublist.cons_cons _ (List.Sublist.cons_cons _ (List.nil_sublist _)))).imp (rs' := [(fun V => ∀ t ∈ (T : List Sht), V.ownsRow w.heap.size 3 1 (.slice t.ha t.hn t.hc) t.hn (L1 t.hs)), (fun V => ∀ y ∈ ((M ++ [t1]) : List Wal), V.ownsRow w.heap.size 95 5 (.slice y.oa y.on y.oc) y.on (LO y.ops))]) (fun V h r hr => by
                rcases List.mem_cons.1 hr with rfl | hr
                · exact h _ (List.mem_cons_self ..)
                · rcases List.mem_singleton.1 hr with rfl
                  intro t ht
                  rcases List.mem_append.1 ht with ht | ht
                  · exact h _ (List.mem_cons_of_mem _ (List.mem_cons_self ..)) t ht
                  · rcases List.mem_singleton.1 ht with rfl
                    exact h _ (List.mem_cons_of_mem _ (List.mem_cons_of_mem _ (List.mem_cons_self ..)))))
              rw [show LWa M ++ cWa t1 = LWa (M ++ [t1]) by simp [LWa]] at hF
              clear hVL_5
              go_wp2
              go_roundw
              case rel => exact ⟨k + 1, aA, cA, M ++ [t1], by omega, by go_num, Lib.hid (HN.out t1 ht1.out), hF⟩
              case measure => simp [intOf]; omega
            exact AllReadyH.nil
          exact AllReadyH.nil
        · have hkk : ¬ (k : Int) < (L.length : Int) := by omega
          obtain rfl : k = L.length := by omega
          rw [List.take_length] at HM
          have x2 : wr.cell? ⟨b3, 0, none⟩ = some (.slice a1 S.length c1) := hC.out.cell 2 0 rfl rfl
          have x3 : wr.cell? ⟨b3, 1, none⟩ = some (.slice a L.length c) := hC.out.cell 2 1 rfl rfl
          have y2 : wr.cell? ⟨b2, 0, none⟩ = some (.slice none 0 0) := hC.out.cell 1 0 rfl rfl
          have y3 : wr.cell? ⟨b2, 1, none⟩ = some (.slice none 0 0) := hC.out.cell 1 1 rfl rfl
          have f2 := hC.out.free 1 0 rfl
          have f3 := hC.out.free 1 1 rfl
          have l2 := hC.out.lt 1 rfl
          go_wp2
          have hE := Lib.hid (hC.out |>.set (j := 0) (v := .slice a1 S.length c1) 1 rfl |>.set (j := 1) (v := .slice a L.length c) 1 rfl)
          refine ret_sy hE.out (v := .agg #[.slice a1 S.length c1, .slice a L.length c]) (fun hF => ?_) rfl (fun hF => ⟨a1, a, c1, c, T, M, HT.out, HM.out, rfl, ⟨hF.osx 0 rfl, fun t ht => Sx.owns (hF.r 0 rfl t ht), copies HT.out (P := fun s => s.name.size ≤ maxLen) HS.out.nam, copies HT.out (P := fun s => 0 ≤ s.cope) HS.out.cop⟩, ⟨hF.osx 1 rfl, fun t ht => Sx.owns (hF.r 1 rfl t ht), copies HM.out (P := fun x => x.name.size ≤ maxLen ∧ x.sheet.size ≤ maxLen) HL.out.nam, copies HM.out (P := fun x => ∀ o ∈ x.ops, 0 ≤ o.kind ∧ o.kind ≤ 255) HL.out.knd⟩, hF.be, fun V hV => ⟨⟨Sx.owns (ownsRow_anew (hF.orow 0 rfl) hV), fun t ht => Sx.owns (ownsRow_anew (hF.r 0 rfl t ht) hV), copies HT.out (P := fun s => s.name.size ≤ maxLen) HS.out.nam, copies HT.out (P := fun s => 0 ≤ s.cope) HS.out.cop⟩, ⟨Sx.owns (ownsRow_anew (hF.orow 1 rfl) hV), fun t ht => Sx.owns (ownsRow_anew (hF.r 1 rfl t ht) hV), copies HM.out (P := fun x => x.name.size ≤ maxLen ∧ x.sheet.size ≤ maxLen) HL.out.nam, copies HM.out (P := fun x => ∀ o ∈ x.ops, 0 ≤ o.kind ∧ o.kind ≤ 255) HL.out.knd⟩⟩⟩)
          have e0 := hF.cell 1 0 rfl rfl
          have e1 := hF.cell 1 1 rfl rfl
          simp [results, Tryz.results8, go_sem, e0, e1]
end
end Go.Proofs.YtchignmnnbepnaaGreat

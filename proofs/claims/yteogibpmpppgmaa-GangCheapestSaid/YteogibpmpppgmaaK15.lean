/- the law GangCheapest, walked -/
import Derived.Test.YteogibpmpppgmaaK14
import Derived.Test.YteogibpmpppgmaaH21
import Derived.Test.YteogibpmpppgmaaH3
namespace Go.Proofs.Yteogibpmpppgmaa
open Go.RowKit

def outP (d : Int) (x : I3) : Bool := !inB (x.1 + d) (-100000) 100000
def outN (d : Int) (x : I2) : Bool := !inB (x.1 + d) (-100000) 100000
theorem any_same {α : Type} {p q : α → Bool} : ∀ {l : List α}, (∀ x ∈ l, p x = q x) → l.any p = l.any q
  | [], _ => rfl
  | x :: l, h => by rw [List.any_cons, List.any_cons, h x (List.mem_cons_self ..), any_same fun y hy => h y (List.mem_cons_of_mem _ hy)]
theorem mov_bad {d : Int} {P : List I3} {N : List I2} (h : yardBad P N = false) : yardBad (movP d P) (movN d N) = (P.any (outP d) || N.any (outN d)) := by
  have hg := yard_good h
  have e1 : (movP d P).any badPile = P.any (outP d) := by
    unfold movP
    rw [List.any_map]
    refine any_same fun x hx => ?_
    have h1 := hg.2.2.1 x hx
    show badPile (x.1 + d, x.2) = outP d x
    unfold badPile outP
    dsimp only
    rw [show inB x.2.1 0 1000000 = true from inB_iff.2 h1.2.1, show inB x.2.2 0 1000000 = true from inB_iff.2 h1.2.2]
    simp
  have e2 : (movN d N).any badNeed = N.any (outN d) := by
    unfold movN
    rw [List.any_map]
    refine any_same fun x hx => ?_
    have h1 := hg.2.2.2 x hx
    show badNeed (x.1 + d, x.2) = outN d x
    unfold badNeed outN
    dsimp only
    rw [show inB x.2 0 1000000 = true from inB_iff.2 h1.2]
    simp
  unfold yardBad
  rw [movP_len, movN_len, decide_eq_false (show ¬ 20 < P.length by omega), decide_eq_false (show ¬ 20 < N.length by omega), e1, e2]
  rfl
theorem mov_err {d : Int} {P : List I3} {N : List I2} (h : yardErr P N = 0) : yardErr (movP d P) (movN d N) = if (P.any (outP d) || N.any (outN d)) = true then 2 else 0 := by
  unfold yardErr at h ⊢
  cases hb : yardBad P N
  · rw [hb] at h
    have he : enoughB (movP d P) (movN d N) = enoughB P N := by
      unfold enoughB sumBy movP movN
      rw [List.map_map, List.map_map]
      rfl
    rw [mov_bad hb, he]
    cases hen : enoughB P N
    · rw [hen] at h; simp at h
    · rfl
  · rw [hb] at h; simp at h
theorem L3_set : ∀ (l : List I3) (i : Nat) (v : Int) (h : i < l.length), (L3 l).set (i * 3) (.int .i64 v) = L3 (l.set i (v, l[i].2))
  | x :: l, 0, v, _ => rfl
  | x :: l, i + 1, v, h => by
    have h' : i < l.length := by simpa using h
    have ih := L3_set l i v h'
    show (Value.int .i64 x.1 :: Value.int .i64 x.2.1 :: Value.int .i64 x.2.2 :: L3 l).set ((i + 1) * 3) _ = Value.int .i64 x.1 :: Value.int .i64 x.2.1 :: Value.int .i64 x.2.2 :: L3 (l.set i (v, l[i].2))
    rw [show (i + 1) * 3 = i * 3 + 1 + 1 + 1 by omega, List.set_cons_succ, List.set_cons_succ, List.set_cons_succ, ih]
theorem L2_set : ∀ (l : List I2) (i : Nat) (v : Int) (h : i < l.length), (L2 l).set (i * 2) (.int .i64 v) = L2 (l.set i (v, l[i].2))
  | x :: l, 0, v, _ => rfl
  | x :: l, i + 1, v, h => by
    have h' : i < l.length := by simpa using h
    have ih := L2_set l i v h'
    show (Value.int .i64 x.1 :: Value.int .i64 x.2 :: L2 l).set ((i + 1) * 2) _ = Value.int .i64 x.1 :: Value.int .i64 x.2 :: L2 (l.set i (v, l[i].2))
    rw [show (i + 1) * 2 = i * 2 + 1 + 1 by omega, List.set_cons_succ, List.set_cons_succ, ih]
/-- the first k are moved -/
def partP (d : Int) (P : List I3) (k : Nat) : List I3 := movP d (P.take k) ++ P.drop k
def partN (d : Int) (N : List I2) (k : Nat) : List I2 := movN d (N.take k) ++ N.drop k
theorem partP_len (d : Int) (P : List I3) {k : Nat} (h : k ≤ P.length) : (partP d P k).length = P.length := by
  unfold partP; rw [List.length_append, movP_len, List.length_take, List.length_drop]; omega
theorem partN_len (d : Int) (P : List I2) {k : Nat} (h : k ≤ P.length) : (partN d P k).length = P.length := by
  unfold partN; rw [List.length_append, movN_len, List.length_take, List.length_drop]; omega
theorem partP_at (d : Int) (P : List I3) {k : Nat} (h : k < P.length) : (partP d P k)[k]? = some P[k] := by
  unfold partP
  rw [List.getElem?_append_right (by rw [movP_len, List.length_take]; omega), movP_len, List.length_take, List.getElem?_drop, show k + (k - min k P.length) = k by omega, List.getElem?_eq_getElem h]
theorem partN_at (d : Int) (P : List I2) {k : Nat} (h : k < P.length) : (partN d P k)[k]? = some P[k] := by
  unfold partN
  rw [List.getElem?_append_right (by rw [movN_len, List.length_take]; omega), movN_len, List.length_take, List.getElem?_drop, show k + (k - min k P.length) = k by omega, List.getElem?_eq_getElem h]
theorem partP_succ (d : Int) (P : List I3) {k : Nat} (h : k < P.length) : (partP d P k).set k (P[k].1 + d, P[k].2) = partP d P (k + 1) := by
  unfold partP
  have e : (movP d (P.take k)).length = k := by rw [movP_len, List.length_take]; omega
  rw [List.set_append_right _ _ (by omega), e, Nat.sub_self, List.drop_eq_getElem_cons h, List.set_cons_zero, List.take_succ_eq_append_getElem h]
  unfold movP
  rw [List.map_append, List.append_assoc]
  rfl
theorem partN_succ (d : Int) (P : List I2) {k : Nat} (h : k < P.length) : (partN d P k).set k (P[k].1 + d, P[k].2) = partN d P (k + 1) := by
  unfold partN
  have e : (movN d (P.take k)).length = k := by rw [movN_len, List.length_take]; omega
  rw [List.set_append_right _ _ (by omega), e, Nat.sub_self, List.drop_eq_getElem_cons h, List.set_cons_zero, List.take_succ_eq_append_getElem h]
  unfold movN
  rw [List.map_append, List.append_assoc]
  rfl
theorem any_take {α : Type} (p : α → Bool) {l : List α} {k : Nat} (h : k < l.length) : (l.take (k + 1)).any p = ((l.take k).any p || p l[k]) := by
  rw [List.take_succ_eq_append_getElem h, List.any_append]
  simp
theorem partP_zero (d : Int) (P : List I3) : partP d P 0 = P := by unfold partP; simp [movP]
theorem partN_zero (d : Int) (P : List I2) : partN d P 0 = P := by unfold partN; simp [movN]
theorem partP_all (d : Int) (P : List I3) {k : Nat} (h : P.length ≤ k) : partP d P k = movP d P := by unfold partP; rw [List.take_of_length_le h, List.drop_eq_nil_of_le h, List.append_nil]
theorem partN_all (d : Int) (P : List I2) {k : Nat} (h : P.length ≤ k) : partN d P k = movN d P := by unfold partN; rw [List.take_of_length_le h, List.drop_eq_nil_of_le h, List.append_nil]
section
variable (w : World)
set_option maxRecDepth 100000 in
set_option maxHeartbeats 8000000 in
theorem gangCheapest_walk (a0 a1 a2 : Option Addr) (n0 c0 n1 c1 n2 c2 : Nat) (P : List I3) (N : List I2) (l : List I3) (D : Int) (hsp : Sx 3 w a0 n0 c0 (L3 P)) (hsn : Sx 2 w a1 n1 c1 (L2 N)) (hsl : Sx 3 w a2 n2 c2 (L3 l)) (hDb : -32768 ≤ D ∧ D < 32768) :
    Calls Try.prog 7 #[.slice a0 n0 c0, .slice a1 n1 c1, .slice a2 n2 c2, .int .i16 D] w (Gives (.bool true) w) := by
  have cap2 := hsl.cap
  unfold maxLen at cap2
  obtain rfl := hsp.n3
  obtain rfl := hsn.n2
  obtain rfl := hsl.n3
  have HW := Lib.hid wakes_any
  have HSP := Lib.hid hsp
  have HSN := Lib.hid hsn
  have HSL := Lib.hid hsl
  have HRY := Lib.hid (refYard_any w a0 a1 _ c0 _ c1 P N hsp hsn)
  clear hsp hsn hsl
  by_cases h60 : (l.length : Int) > 60
  · go_enter Try.func7, Try.ntmps7
    go_wp2_with fail
    refine (HW.out _).mono ?_
    rintro e V ⟨rfl, hb⟩
    have hC := Lib.hid ((Sy.enter w).call hb)
    clear hb
    go_wp2
    go_ret
    exact ⟨rfl, hC.out.be⟩
  cases hyb : yardBad P N
  rotate_left
  · rw [hyb] at HRY
    clear hyb
    go_enter Try.func7, Try.ntmps7
    go_wp2_with fail
    refine HRY.out.mono ?_
    rintro e V ⟨rfl, hb⟩
    have hC := Lib.hid ((Sy.enter w).call hb)
    clear hb
    go_wp2_with fail
    refine (HW.out _).mono ?_
    rintro e V ⟨rfl, hb⟩
    have hD := Lib.hid (hC.out.call hb)
    clear hb
    go_wp2
    go_ret
    exact ⟨rfl, hD.out.be⟩
  have HRE := Lib.hid (fun W (h : Below w.heap.size w W) => refEnough_any W a0 a1 _ c0 _ c1 P N (HSP.out.below h) (HSN.out.below h) hyb)
  rw [hyb] at HRY
  cases hen : enoughB P N
  · rw [hen] at HRE
    clear hyb hen
    go_enter Try.func7, Try.ntmps7
    go_wp2_with fail
    refine HRY.out.mono ?_
    rintro e V ⟨rfl, hb⟩
    have hC := Lib.hid ((Sy.enter w).call hb)
    clear hb
    go_wp2_with fail
    refine (HRE.out _ hC.out.be).mono ?_
    rintro e V ⟨rfl, hb⟩
    have hD := Lib.hid (hC.out.call hb)
    clear hb
    go_wp2_with fail
    refine (HW.out _).mono ?_
    rintro e V ⟨rfl, hb⟩
    have hE := Lib.hid (hD.out.call hb)
    clear hb
    go_wp2
    go_ret
    exact ⟨rfl, hE.out.be⟩
  rw [hen] at HRE
  have hye : yardErr P N = 0 := by unfold yardErr; rw [hyb, hen]; rfl
  have HYE := Lib.hid hye
  have HGD := Lib.hid (show YGood P N from yard_good hyb)
  have hP20 := HGD.out.1
  have hN20 := HGD.out.2.1
  have HME := Lib.hid (mov_err (d := D) hye)
  have HCP := Lib.hid (fun W (h : Below w.heap.size w W) => conv_Pile a0 _ c0 P W (HSP.out.below h) (by omega))
  have HCN := Lib.hid (fun W (h : Below w.heap.size w W) => conv_Need a1 _ c1 N W (HSN.out.below h) (by omega))
  have HRC := Lib.hid (fun W (h : Below w.heap.size w W) => refCarrying_any W a0 a1 a2 _ c0 _ c1 _ c2 P N l (HSP.out.below h) (HSN.out.below h) (HSL.out.below h) HGD.out (by omega))
  clear hyb hen hye
  have wD : IntKind.i64.wrap D = D := by rw [IntKind.wrap_i64]; omega
  go_enter Try.func7, Try.ntmps7
  go_wp2_with fail
  refine HRY.out.mono ?_
  rintro e V ⟨rfl, hb⟩
  have hC := Lib.hid ((Sy.enter w).call hb)
  clear hb HRY
  go_wp2_with fail
  refine (HRE.out _ hC.out.be).mono ?_
  rintro e V2 ⟨rfl, hb⟩
  have hA := Lib.hid (hC.out.call hb)
  clear hb HRE hC
  go_wp2_with fail
  refine (HCP.out _ hA.out.be).mono ?_
  rintro e V5 ⟨a5, c5, rfl, hr, hb⟩
  have hD := Lib.hid (hA.out.adopt hb hr)
  clear hb hr hA HCP
  go_wp2_with fail
  refine (HCN.out _ hD.out.be).mono ?_
  rintro e V6 ⟨a6, c6, rfl, hr, hb⟩
  have hE0 := hD.out.adopt hb hr
  have hE : Hid (Sy w V6 [] [⟨.slice a5 P.length c5, 60, 3, P.length, L3 P⟩, ⟨.slice a6 N.length c6, 62, 2, N.length, L2 N⟩] []) := Lib.hid hE0
  clear hb hr hD hE0 HCN
  have HCA := Lib.hid (carry_ok V6 a5 a6 _ c5 _ c6 P N (hE.out.osx 0 rfl) (hE.out.osx 1 rfl) HYE.out)
  go_wp2_with fail
  refine HCA.out.mono ?_
  rintro e V7 ⟨X, G, T, a7, c7, hY, hT, rfl, _, hb⟩
  have hF := Lib.hid (hE.out.call hb)
  have HY := Lib.hid hY
  have HT := Lib.hid hT
  clear hb hE HCA hY hT
  have HLE := Lib.hid (fun h : carryOk P N l = true => carry_least HY.out HT.out h)
  have HMV := Lib.hid (fun X' G' T' Y' hd' => mov_same (d := D) (X' := X') (G' := G') (T' := T') HY.out HT.out Y' hd')
  generalize (loadsOf P.length N.length (XF X)).length = ll at *
  generalize costN P.length N.length (costC P N) (XF X) = cst at *
  have hrc : (∃ o : Int, carryAns P N l = (o, true) ∧ ¬ o < cst) ∨ carryAns P N l = (0, false) := by
    unfold carryAns
    cases hck : carryOk P N l
    · exact .inr rfl
    · exact .inl ⟨_, rfl, by have := HLE.out hck; omega⟩
  rcases hrc with ⟨o, ho, hlt⟩ | ho
  all_goals
    rw [ho] at HRC
    clear ho HLE
    go_wp2_with fail
    refine (HRC.out _ hF.out.be).mono ?_
    rintro e V8 ⟨rfl, hb⟩
    have hG := Lib.hid (hF.out.call hb)
    clear hb hF HRC
    go_wp2
    go_loopw [16, 17] (fun fv iv wr => ∃ (k : Nat) (f : Bool), k ≤ P.length ∧ fv = .bool f ∧ iv = .int .i64 k ∧ Hid (f = (P.take k).any (outP D)) ∧ Hid (Sy w wr [] [⟨.slice a5 P.length c5, 60, 3, P.length, L3 (partP D P k)⟩, ⟨.slice a6 N.length c6, 62, 2, N.length, L2 N⟩] [])) (fun _ iv _ => P.length - (intOf iv).toNat)
    case atStart => exact ⟨0, false, Nat.zero_le _, rfl, rfl, Lib.hid rfl, by rw [partP_zero]; exact hG⟩
    case round =>
      clear hG
      obtain ⟨k, f, hk, rfl, rfl, hFA, hS⟩ := hrel
      by_cases hkl : k < P.length
      · have hkk : (k : Int) < (P.length : Int) := by omega
        have k0 : (0 : Int) ≤ (k : Int) := by omega
        obtain ⟨g5, rfl, _⟩ := hS.out.oaddr 0 rfl (by omega)
        have HFT := Lib.hid (any_take (outP D) hkl)
        have HPL := Lib.hid (partP_len D P hk)
        have HPS := Lib.hid (partP_succ D P hkl)
        have HPE := Lib.hid (show (partP D P k)[k]'(by rw [HPL.out]; exact hkl) = P[k] from Option.some.inj ((List.getElem?_eq_getElem _).symm.trans (partP_at D P hkl)))
        have HXB := Lib.hid (HGD.out.2.2.1 _ (List.getElem_mem hkl)).1
        have x0 : wr.cell? ⟨g5, k * 3, none⟩ = some (.int .i64 P[k].1) := by
          have h := ((hS.out.osx 0 rfl).at3 (l := partP D P k) (i := k) (by rw [HPL.out]; exact hkl)).1
          rw [HPE.out, Nat.zero_add] at h
          exact h
        have x1 : wr.frozen? ⟨g5, k * 3, none⟩ = false := hS.out.rfree 0 rfl _
        have HLS := Lib.hid (show ∀ v, (L3 (partP D P k)).set (k * 3) (.int .i64 v) = L3 ((partP D P k).set k (v, P[k].2)) from fun v => by
          have h := L3_set (partP D P k) k v (by rw [HPL.out]; exact hkl)
          rw [HPE.out] at h
          exact h)
        have HOD := Lib.hid (show outP D P[k] = !inB (P[k].1 + D) (-100000) 100000 from rfl)
        have HLV := Lib.hid (show (L3 (partP D P k)).set (k * 3) (.int .i64 (P[k].1 + D)) = L3 (partP D P (k + 1)) from by rw [HLS.out, HPS.out])
        have HXN := Lib.hid (show (L3 (partP D P (k + 1)))[k * 3]? = some (.int .i64 (P[k].1 + D)) from by
          rw [← HLV.out, List.getElem?_set_self (by rw [L3_len, HPL.out]; omega)])
        have hxb := HXB.out
        clear HLS HPS HPE HXB
        obtain ⟨x, hx⟩ : ∃ x, P[k].1 = x := ⟨_, rfl⟩
        rw [hx] at x0 HLV HOD hxb HXN
        rw [HOD.out] at HFT
        clear hx HOD
        have wx : IntKind.i64.wrap (x + D) = x + D := by rw [IntKind.wrap_i64]; omega
        have hA := Lib.hid (hS.out.ostore 0 rfl (k * 3) (.int .i64 (x + D)))
        clear hS
        go_upto_region 15 with fail
        refine wp_geny hA.out ?_
        intro W2 hc
        have hS : Hid (Sy w W2 [] [⟨.slice (some ⟨g5, 0, none⟩) P.length c5, 60, 3, P.length, L3 (partP D P (k + 1))⟩, ⟨.slice a6 N.length c6, 62, 2, N.length, L2 N⟩] []) := Lib.hid (by rw [← HLV.out]; exact hc)
        clear hc hA x0 x1
        have x0 : W2.cell? ⟨g5, k * 3, none⟩ = some (.int .i64 (x + D)) := hS.out.rcell 0 rfl HXN.out
        cases f
        · cases hin : inB (x + D) (-100000) 100000
          all_goals
            have HIA := Lib.hid (fun W => In_any (x + D) (-100000) 100000 W)
            rw [hin] at HIA HFT
            clear hin
            go_wp2_with ((with_reducible refine (HIA.out _).mono ?_); rintro e w1 ⟨rfl, rfl⟩)
            go_roundw
            case rel => exact ⟨k + 1, _, by omega, rfl, by go_num, Lib.hid (by rw [HFT.out, ← hFA.out]; rfl), hS⟩
            case measure => simp [intOf]; omega
        · go_wp2
          go_roundw
          case rel => exact ⟨k + 1, true, by omega, rfl, by go_num, Lib.hid (by rw [HFT.out, ← hFA.out]; rfl), hS⟩
          case measure => simp [intOf]; omega
      · have hkk : ¬ (k : Int) < (P.length : Int) := by omega
        have ht : P.take k = P := List.take_of_length_le (by omega)
        rw [ht] at hFA
        rw [partP_all D P (by omega)] at hS
        clear ht
        go_wp2
        go_loopw [16, 18] (fun fv iv wr => ∃ (m : Nat) (f2 : Bool), m ≤ N.length ∧ fv = .bool f2 ∧ iv = .int .i64 m ∧ Hid (f2 = (P.any (outP D) || (N.take m).any (outN D))) ∧ Hid (Sy w wr [] [⟨.slice a5 P.length c5, 60, 3, P.length, L3 (movP D P)⟩, ⟨.slice a6 N.length c6, 62, 2, N.length, L2 (partN D N m)⟩] [])) (fun _ iv _ => N.length - (intOf iv).toNat)
        case atStart => exact ⟨0, f, Nat.zero_le _, rfl, rfl, Lib.hid (by rw [hFA.out]; simp), by rw [partN_zero]; exact hS⟩
        case round =>
          clear hS
          obtain ⟨m, f2, hm, rfl, rfl, hFB, hS⟩ := hrel
          by_cases hml : m < N.length
          · have hmm : (m : Int) < (N.length : Int) := by omega
            have m0 : (0 : Int) ≤ (m : Int) := by omega
            obtain ⟨g6, rfl, _⟩ := hS.out.oaddr 1 rfl (by omega)
            have HFT := Lib.hid (any_take (outN D) hml)
            have HPL := Lib.hid (partN_len D N hm)
            have HPS := Lib.hid (partN_succ D N hml)
            have HPE := Lib.hid (show (partN D N m)[m]'(by rw [HPL.out]; exact hml) = N[m] from Option.some.inj ((List.getElem?_eq_getElem _).symm.trans (partN_at D N hml)))
            have HXB := Lib.hid (HGD.out.2.2.2 _ (List.getElem_mem hml)).1
            have x0 : wr.cell? ⟨g6, m * 2, none⟩ = some (.int .i64 N[m].1) := by
              have h := ((hS.out.osx 1 rfl).at2 (l := partN D N m) (i := m) (by rw [HPL.out]; exact hml)).1
              rw [HPE.out, Nat.zero_add] at h
              exact h
            have x1 : wr.frozen? ⟨g6, m * 2, none⟩ = false := hS.out.rfree 1 rfl _
            have HLS := Lib.hid (show ∀ v, (L2 (partN D N m)).set (m * 2) (.int .i64 v) = L2 ((partN D N m).set m (v, N[m].2)) from fun v => by
              have h := L2_set (partN D N m) m v (by rw [HPL.out]; exact hml)
              rw [HPE.out] at h
              exact h)
            have HOD := Lib.hid (show outN D N[m] = !inB (N[m].1 + D) (-100000) 100000 from rfl)
            have HLV := Lib.hid (show (L2 (partN D N m)).set (m * 2) (.int .i64 (N[m].1 + D)) = L2 (partN D N (m + 1)) from by rw [HLS.out, HPS.out])
            have HXN := Lib.hid (show (L2 (partN D N (m + 1)))[m * 2]? = some (.int .i64 (N[m].1 + D)) from by
              rw [← HLV.out, List.getElem?_set_self (by rw [L2_len, HPL.out]; omega)])
            have hxb := HXB.out
            clear HLS HPS HPE HXB
            obtain ⟨x, hx⟩ : ∃ x, N[m].1 = x := ⟨_, rfl⟩
            rw [hx] at x0 HLV HOD hxb HXN
            rw [HOD.out] at HFT
            clear hx HOD
            have wx : IntKind.i64.wrap (x + D) = x + D := by rw [IntKind.wrap_i64]; omega
            have hA := Lib.hid (hS.out.ostore 1 rfl (m * 2) (.int .i64 (x + D)))
            clear hS
            go_upto_region 20 with fail
            refine wp_geny hA.out ?_
            intro W2 hc
            have hS : Hid (Sy w W2 [] [⟨.slice a5 P.length c5, 60, 3, P.length, L3 (movP D P)⟩, ⟨.slice (some ⟨g6, 0, none⟩) N.length c6, 62, 2, N.length, L2 (partN D N (m + 1))⟩] []) := Lib.hid (by rw [← HLV.out]; exact hc)
            clear hc hA x0 x1
            have x0 : W2.cell? ⟨g6, m * 2, none⟩ = some (.int .i64 (x + D)) := hS.out.rcell 1 rfl HXN.out
            cases f2
            · cases hin : inB (x + D) (-100000) 100000
              all_goals
                have HIA := Lib.hid (fun W => In_any (x + D) (-100000) 100000 W)
                rw [hin] at HIA HFT
                clear hin
                go_wp2_with ((with_reducible refine (HIA.out _).mono ?_); rintro e w1 ⟨rfl, rfl⟩)
                go_roundw
                case rel => exact ⟨m + 1, _, by omega, rfl, by go_num, Lib.hid (by rw [HFT.out, ← Bool.or_assoc, ← hFB.out]; rfl), hS⟩
                case measure => simp [intOf]; omega
            · go_wp2
              go_roundw
              case rel => exact ⟨m + 1, true, by omega, rfl, by go_num, Lib.hid (by rw [HFT.out, ← Bool.or_assoc, ← hFB.out]; rfl), hS⟩
              case measure => simp [intOf]; omega
          · have hmm : ¬ (m : Int) < (N.length : Int) := by omega
            have ht : N.take m = N := List.take_of_length_le (by omega)
            rw [ht] at hFB
            rw [partN_all D N (by omega)] at hS
            rw [← hFB.out] at HME
            clear ht
            have HSA := Lib.hid (show Sx 3 wr a5 P.length c5 (L3 (movP D P)) from hS.out.osx 0 rfl)
            have HSB := Lib.hid (show Sx 2 wr a6 N.length c6 (L2 (movN D N)) from hS.out.osx 1 rfl)
            cases f2
            · have HCB := Lib.hid (carry_ok wr a5 a6 _ c5 _ c6 (movP D P) (movN D N) HSA.out HSB.out HME.out)
              go_wp2_with fail
              refine HCB.out.mono ?_
              rintro e V9 ⟨X', G', T', a9, c9, hY', hT', rfl, _, hb⟩
              have hH := Lib.hid (hS.out.call hb)
              rw [HMV.out _ _ _ hY' hT']
              clear hb hY' hT' HCB
              go_wp2_with fail
              refine (HW.out _).mono ?_
              rintro e V10 ⟨rfl, hb⟩
              have hI := Lib.hid (hH.out.call hb)
              clear hb
              go_wp2
              go_ret
              exact ⟨rfl, hI.out.be⟩
            · have hne : yardErr (movP D P) (movN D N) = 2 := HME.out
              have HCB := Lib.hid (carry_bad wr a5 a6 _ c5 _ c6 (movP D P) (movN D N) HSA.out HSB.out (by rw [hne]; decide))
              rw [hne] at HCB
              clear hne
              go_wp2_with fail
              refine HCB.out.mono ?_
              rintro e V9 ⟨rfl, hb⟩
              have hH := Lib.hid (hS.out.call hb)
              clear hb HCB
              go_wp2_with fail
              refine (HW.out _).mono ?_
              rintro e V10 ⟨rfl, hb⟩
              have hI := Lib.hid (hH.out.call hb)
              clear hb
              go_wp2
              go_ret
              exact ⟨rfl, hI.out.be⟩
end
end Go.Proofs.Yteogibpmpppgmaa

/- whole.settled: digits of any size are carried; the result is the number's digits. -/
import Derived.Test.YtnimnoodpnhodaaDoorBase
import Derived.Test.YtnimnoodpnhodaaDoorLaws
namespace Go.Proofs.YtnimnoodpnhodaaDoor
open Go.RowKit Dig

theorem cr_bound : ∀ (c : Int) (l : List Int), (∀ x ∈ l, -4611686018427387904 ≤ x ∧ x ≤ 4611686018427387904) → -300000000000 ≤ c → c ≤ 300000000000 → -300000000000 ≤ (cr 16777216 c l).2 ∧ (cr 16777216 c l).2 ≤ 300000000000
  | c, [], _, h1, h2 => ⟨h1, h2⟩
  | c, x :: l, h, h1, h2 => by
    have hx := h x (by simp)
    rw [cr]
    exact cr_bound _ l (fun y hy => h y (by simp [hy])) (by omega) (by omega)

/-- one round of the carrying pass -/
theorem cr_round {xs : List Int} {k : Nat} (h : k < xs.length) :
    ((cr 16777216 0 (xs.take k)).1 ++ xs.drop k)[k]'(by simp [cr_len]; omega) = xs[k] ∧
    (((cr 16777216 0 (xs.take k)).1 ++ xs.drop k).set k (xs[k] + (cr 16777216 0 (xs.take k)).2)).set k ((xs[k] + (cr 16777216 0 (xs.take k)).2) % 16777216) = (cr 16777216 0 (xs.take (k + 1))).1 ++ xs.drop (k + 1) ∧
    (cr 16777216 0 (xs.take (k + 1))).2 = (xs[k] + (cr 16777216 0 (xs.take k)).2) / 16777216 := by
  have hl : (cr 16777216 0 (xs.take k)).1.length = k := by rw [cr_len, List.length_take]; omega
  have ht : xs.take (k + 1) = xs.take k ++ [xs[k]] := List.take_succ_eq_append_getElem h
  have hs : cr 16777216 0 (xs.take (k + 1)) = ((cr 16777216 0 (xs.take k)).1 ++ [(xs[k] + (cr 16777216 0 (xs.take k)).2) % 16777216], (xs[k] + (cr 16777216 0 (xs.take k)).2) / 16777216) := by rw [ht, cr_snoc]
  refine ⟨?_, ?_, by rw [hs]⟩
  · rw [List.getElem_append_right (by omega)]; simp [hl]
  · rw [hs, List.set_set, List.set_append_right _ _ (by omega), hl, Nat.sub_self, List.drop_eq_getElem_cons h, List.set_cons_zero]
    simp

set_option maxHeartbeats 400000 in
theorem settled_any (v : Value) (xs : List Int) (w : World) (hv : ∃ a n c, v = .slice a n c) (hs : Sl 2 w v xs) (hb : ∀ x ∈ xs, -4611686018427387904 ≤ x ∧ x ≤ 4611686018427387904) (h0 : 0 ≤ vl 16777216 xs) (hl : xs.length ≤ 100000000) :
    Calls Tryd.prog 58 #[v] w fun e w' => ∃ a n c, e = .returned (.agg #[.slice a n c]) ∧ Dg w' (.slice a n c) (vl 16777216 xs).toNat ∧ w.grownBy w' v.ownBlock ∧ Since w.heap.size v (.slice a n c) := by
  obtain ⟨a, n, c, rfl⟩ := hv
  have hn := hs.len
  subst hn
  have hlt := hs.lt
  have hS := Lib.hid hs
  clear hs
  go_enter Tryd.func58, Tryd.ntmps58
  go_wp2
  go_loopw [3, 7] (fun c' i wr => ∃ k : Nat, k ≤ xs.length ∧ i = .int .i64 k ∧ c' = .int .i64 (cr 16777216 0 (xs.take k)).2 ∧
      Sl 2 wr (.slice a xs.length c) ((cr 16777216 0 (xs.take k)).1 ++ xs.drop k) ∧ w.grownBy wr (Value.ownBlock (.slice a xs.length c)) ∧ Box wr w.heap.size (.slice none 0 0) 25) (fun _ i _ => xs.length - (intOf i).toNat)
  case atStart => exact ⟨0, Nat.zero_le _, rfl, rfl, by simpa [cr] using hS.out.alloc _, World.grownBy_alloc _ _ _, Box.new _ _ _⟩
  case round =>
    obtain ⟨k, hk, rfl, rfl, ho, hg, hbx⟩ := hrel
    by_cases hkl : k < xs.length
    · obtain ⟨g, rfl, hgl⟩ := hS.out.row (by omega)
      obtain ⟨r1, r2, r3⟩ := cr_round hkl
      have hc : wr.cell? ⟨g, k, none⟩ = some (.int .i64 xs[k]) := by rw [ho.cell (k := k) (by simp [cr_len]; omega), r1]
      have hf := ho.free k
      have b1 := hb _ (List.getElem_mem hkl)
      have b2 := cr_bound 0 (xs.take k) (fun x hx => hb x (List.mem_of_mem_take hx)) (by omega) (by omega)
      have R2 := Lib.hid r2
      have R3 := Lib.hid r3
      clear r1 r2 r3 hb
      go_wp2
      go_roundw
      case rel =>
        have hne : some w.heap.size ≠ Value.ownBlock (.slice (some ⟨g, 0, none⟩) xs.length c) := by simp only [Value.ownBlock, ne_eq, Option.some.injEq]; omega
        rw [i64_mask24]
        refine ⟨k + 1, by omega, by go_num, by rw [R3.out], ?_, ?_, ?_⟩
        · rw [← R2.out]
          exact (ho.set k _).set k _
        · exact grownBy_trans hg (grownBy_trans (grownBy_setCell _ _ _ _) (grownBy_setCell _ _ _ _))
        · exact hbx.grown (grownBy_trans (grownBy_setCell _ _ _ _) (grownBy_setCell _ _ _ _)) hne
      case measure => simp [intOf]; omega
    · obtain rfl : k = xs.length := by omega
      rw [List.take_length] at *
      rw [List.drop_length, List.append_nil] at ho
      have c1 := cr_carry_nonneg (b := 16777216) (by omega) xs h0
      have c2 := (cr_bound 0 xs hb (by omega) (by omega)).2
      have c3 := cr_vl 16777216 0 xs
      have c4 := cr_mem (b := 16777216) (by omega) 0 xs
      have c5 := cr_len 16777216 0 xs
      simp only [show ((16777216 : Nat) : Int) = 16777216 from rfl, Int.add_zero] at c1 c3 c4
      generalize (cr 16777216 0 xs).2 = cy at *
      generalize (cr 16777216 0 xs).1 = L0 at *
      obtain ⟨r0, rfl⟩ := Int.eq_ofNat_of_zero_le c1
      have hr0 : r0 ≤ 300000000000 := by omega
      have hown : ∀ k, Value.ownBlock (.slice a xs.length c) = some k → k ≠ w.heap.size := fun k hk => Nat.ne_of_lt (hlt k hk)
      have C3 := Lib.hid c3
      have C4 := Lib.hid c4
      have C5 := Lib.hid c5
      have H0 := Lib.hid h0
      have HO := Lib.hid hown
      clear c1 c2 c3 c4 c5 hS hlt h0 hb hown
      go_wp2
      go_loopw [0, 3] (fun d e wr' => ∃ (a' : Option Addr) (n' c' : Nat) (done : List Int) (r : Nat), d = .slice a' n' c' ∧ e = .int .i64 r ∧ Sl 2 wr' (.slice a' n' c') (L0 ++ done) ∧ done ++ dg 16777216 r = dg 16777216 r0 ∧ r ≤ r0 ∧
        w.grownBy wr' (Value.ownBlock (.slice a xs.length c)) ∧ Since w.heap.size (.slice a xs.length c) (.slice a' n' c') ∧ (∀ k, Value.ownBlock (.slice a' n' c') = some k → k ≠ w.heap.size) ∧ Box wr' w.heap.size (.slice none 0 0) 25) (fun _ e _ => (intOf e).toNat)
      case atStart => exact ⟨a, _, c, [], r0, rfl, rfl, by rw [List.append_nil]; exact ho, rfl, Nat.le_refl _, hg, Since.refl _ _, HO.out, hbx⟩
      case round =>
        clear ho hg hbx
        rename_i wq _ _
        obtain ⟨a', n', c', done, r, rfl, rfl, ho, hd, hrr, hg, hsi, hne, hbx⟩ := hrel
        by_cases hr : r = 0
        · subst hr
          rw [dg_zero, List.append_nil] at hd
          subst hd
          have hlen : (dg 16777216 r0).length ≤ 3 := dg_len_le (by omega) (by omega)
          have hvL : vl 16777216 (L0 ++ dg 16777216 r0) = vl 16777216 xs := by
            have := vl_dg (b := 16777216) (by omega) r0
            simp only [show ((16777216 : Nat) : Int) = 16777216 from rfl] at this
            rw [vl_append, this, C5.out]; exact C3.out
          have hmL : ∀ x ∈ L0 ++ dg 16777216 r0, 0 ≤ x ∧ x < 16777216 := fun x hx => (List.mem_append.1 hx).elim (C4.out x) (dg_mem (b := 16777216) (by omega) r0 x)
          have hlL : (L0 ++ dg 16777216 r0).length ≤ 200000000 := by rw [List.length_append, C5.out]; omega
          have HV := Lib.hid hvL
          have HM := Lib.hid hmL
          have HL := Lib.hid ho.len
          have HN := Lib.hid hne
          have HO2 := Lib.hid ho
          clear hvL hmL hne hlen ho
          generalize L0 ++ dg 16777216 r0 = L at *
          go_wp2
          go_loop [0] (fun d => ∃ (a2 : Option Addr) (m c2 : Nat), d = .slice a2 m c2 ∧ m ≤ L.length ∧ Sl 2 wr (.slice a2 m c2) (L.take m) ∧ vl 16777216 (L.take m) = vl 16777216 L ∧
            Since w.heap.size (.slice a xs.length c) (.slice a2 m c2) ∧ (∀ k, Value.ownBlock (.slice a2 m c2) = some k → k ≠ w.heap.size)) (fun d => match d with | .slice _ m _ => m | _ => 0)
          case atStart => exact ⟨a', n', c', rfl, Nat.le_of_eq HL.out, by rw [List.take_of_length_le (Nat.le_of_eq HL.out.symm)]; exact HO2.out, by rw [HL.out, List.take_length], hsi, HN.out⟩
          case round =>
            obtain ⟨a2, m, c2, rfl, hm, ho2, hv2, hs2, ne2⟩ := hrel
            have H2 := Lib.hid hv2
            clear hv2
            have bc := hbx.cell
            have bf := hbx.free
            have bs := fun u => (hbx.set u).cell
            have hcap := ho2.cap
            have NE := Lib.hid ne2
            clear ne2
            by_cases hm0 : m = 0
            · subst hm0
              go_wp2
              refine bodyPost_ret (v := .agg #[.slice a2 0 c2]) (by simp [results, Tryd.results58, go_sem, bs]) rfl ?_
              have hfin : L.take 0 = dg 16777216 (vl 16777216 xs).toNat := dg_of_take (by omega) (Nat.zero_le _) HM.out (by rw [Int.toNat_of_nonneg H0.out, ← HV.out]; exact H2.out) (fun h => absurd h (by omega))
              refine ⟨a2, 0, c2, rfl, ?_, ?_, hs2⟩
              · unfold Dg; rw [← hfin]; exact ho2.other (fun e => NE.out _ e rfl) _
              · exact grownBy_on hg (grownBy_setCell _ _ _ _) (fun j hj => .inr (by simp only [Option.some.injEq] at hj; omega))
            · obtain ⟨j, rfl⟩ : ∃ j, m = j + 1 := ⟨m - 1, by omega⟩
              obtain ⟨g, rfl, hgl⟩ := ho2.row (by simp; omega)
              have hc : wr.cell? ⟨g, j, none⟩ = some (.int .i64 L[j]) := by
                rw [ho2.cell (k := j) (by simp; omega)]; simp
              by_cases hz : L[j] = 0
              · rw [hz] at hc
                go_wp2
                go_round
                case rel =>
                  refine ⟨_, j, c2, rfl, by omega, ?_, ?_, fun k hk => hs2 k hk, fun k hk => NE.out k hk⟩
                  · have := ho2.pop (k := j) (by simp; omega)
                    rwa [List.take_take, Nat.min_eq_left (by omega)] at this
                  · rw [← H2.out, vl_take_zero 16777216 hm hz]
                case measure => simp
              · have hz' : (L[j] == 0) = false := by simpa using hz
                go_wp2
                refine bodyPost_ret (v := .agg #[.slice (some ⟨g, 0, none⟩) (j + 1) c2]) (by simp [results, Tryd.results58, go_sem, bs]) rfl ?_
                have hfin : L.take (j + 1) = dg 16777216 (vl 16777216 xs).toNat := dg_of_take (by omega) hm HM.out (by rw [Int.toNat_of_nonneg H0.out, ← HV.out]; exact H2.out) (fun _ => by
                  rw [Nat.add_sub_cancel, List.getElem?_eq_getElem (by omega)]; exact hz)
                refine ⟨_, _, c2, rfl, ?_, ?_, hs2⟩
                · unfold Dg; rw [← hfin]; exact ho2.other (fun e => NE.out _ e rfl) _
                · exact grownBy_on hg (grownBy_setCell _ _ _ _) (fun j hj => .inr (by simp only [Option.some.injEq] at hj; omega))
        · have hr1 : 1 ≤ r := by omega
          have hpos : dg 16777216 r = ((r % 16777216 : Nat) : Int) :: dg 16777216 (r / 16777216) := dg_pos (by omega) (by omega)
          have hlen : (dg 16777216 r0).length ≤ 3 := dg_len_le (by omega) (by omega)
          have hl2 : done.length + 1 ≤ 3 := by rw [← hd, hpos] at hlen; simp at hlen; omega
          have HD := Lib.hid hd
          have HP := Lib.hid hpos
          have HN := Lib.hid hne
          have HL := Lib.hid ho.len
          clear hd hpos hne hlen
          have hne0 : ((r : Int) != 0) = true := by simp; omega
          go_wp2_with (at_builtin; refine wpList_append_sl _ rfl _ _ 23 rfl 2 Tryd.underlying23 info_i64 _ _ rfl (ho.alloc _) _ _ rfl (Sl.one _ _ _) ?c3 ?_)
          case c3 => simp; have := C5.out; omega
          intro a2 n2 c2 w2 ho2 hg2 hs2
          go_wp2
          go_roundw
          case rel =>
            have hm := i64_mask24 (r : Int)
            rw [hm] at ho2 hg2
            have hgw : w.grownBy w2 (Value.ownBlock (.slice a xs.length c)) := grownBy_on (grownBy_trans hg (World.grownBy_alloc _ _ _)) hg2 hsi
            have hsz := hg.size
            have hne2 : ∀ k, Value.ownBlock (.slice a2 n2 c2) = some k → k ≠ w.heap.size := fun k hk => by
              rcases hs2 k hk with h | h
              · exact HN.out k h
              · omega
            refine ⟨a2, n2, c2, done ++ [((r % 16777216 : Nat) : Int)], r / 16777216, rfl, by go_num, ho2, ?_, Nat.le_trans (Nat.div_le_self _ _) hrr, hgw, ?_, hne2, ?_⟩
            · rw [← HD.out, HP.out]; simp
            · intro k hk
              rcases hs2 k hk with h | h
              · exact hsi k h
              · exact .inr (by omega)
            · exact (hbx.grown (World.grownBy_alloc _ _ none) (by simp)).grown hg2 (fun e => HN.out _ e.symm rfl)
          case measure => simp [intOf]; omega

end Go.Proofs.YtnimnoodpnhodaaDoor

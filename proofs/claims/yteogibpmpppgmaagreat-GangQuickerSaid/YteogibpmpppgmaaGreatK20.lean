/- the reference's eager division -/
import Derived.Test.YteogibpmpppgmaaGreatK19
namespace Go.Proofs.YteogibpmpppgmaaGreat
open Go.RowKit

theorem und_RStint : Tryz.prog.underlying 35 = some (.slice 128) := Tryz.underlying35
theorem info_RStint : (Tryz.prog.info? 128).map (fun i => (i.zero, i.size, i.bytes)) = some (some (.agg #[.int .i64 0, .int .i64 0, .int .i64 0]), 3, 24) := by kernel_rfl
theorem take_next (F : List Int) (m far : Int) {j : Nat} (h : j < F.length) : nextEnd (F.take (j + 1)) m far = if nextEnd (F.take j) m far < F[j] ∧ F[j] ≤ far then F[j] else nextEnd (F.take j) m far := by rw [take_snoc h, nextEnd_snoc]
theorem next_last {F : List Int} {L m far : Int} (h : nextEnd F m far ≤ L) : nextEnd (F ++ [L]) m far = if L ≤ far then L else nextEnd F m far := by
  rw [nextEnd_snoc]
  by_cases h1 : L ≤ far
  · rw [if_pos h1]
    split
    · rfl
    · omega
  · rw [if_neg h1, if_neg (fun h => h1 h.2)]
section
variable (w : World)
def RetEagerR (w : World) (ends paces : List Int) (d : Int) (e : Ending) (w' : World) : Prop := ∃ a c, e = .returned (.tuple #[.slice a (stintsOf ends paces d).length c, .int .i64 (reachOf ends paces d)]) ∧ w'.ownsRow w.heap.size 128 3 (.slice a (stintsOf ends paces d).length c) (stintsOf ends paces d).length (L3 (stintsOf ends paces d)) ∧ Below w.heap.size w w'
set_option maxHeartbeats 8000000 in
set_option maxRecDepth 100000 in
theorem refEager_any (a a' : Option Addr) (n c n' c' : Nat) (L d : Int) (F : List Int) (l : List WL) (hs : Sx 1 w a n c (L1 F)) (hs' : Sx 3 w a' n' c' (LW l)) (hR : RightF F L) (hF : F.length ≤ 60) (hl : l.length ≤ 12) (hp : ∀ x ∈ l, 1 ≤ x.2.1 ∧ x.2.1 ≤ 20000) (hd0 : 0 ≤ d) (hd1 : d ≤ 1000000) :
    Calls Tryz.prog 18 #[.int .i64 L, .slice a n c, .slice a' n' c', .int .i64 d] w (RetEagerR w (endsOf F L) (pacesOf l) d) := by
  have hlen := hs.n1
  have hlen' := hs'.nW
  have HS := Lib.hid hs
  have HS' := Lib.hid hs'
  have HR := Lib.hid hR
  have HP := Lib.hid hp
  obtain rfl : F.length = n := hlen.symm
  obtain rfl : l.length = n' := hlen'.symm
  clear hs hs' hlen hlen' hR hp
  go_enter Tryz.func18, Tryz.ntmps18
  go_wp2
  go_loopw [10, 11, 12] (fun lv av iv wr => ∃ (k : Nat) (a1 : Option Addr) (c1 : Nat), k ≤ l.length ∧ lv = .slice a1 (stintsOf (endsOf F L) ((pacesOf l).take k) d).length c1 ∧ av = .int .i64 (reachOf (endsOf F L) ((pacesOf l).take k) d) ∧ iv = .int .i64 k ∧
    Hid (Sy w wr [] [⟨.slice a1 (stintsOf (endsOf F L) ((pacesOf l).take k) d).length c1, 128, 3, (stintsOf (endsOf F L) ((pacesOf l).take k) d).length, L3 (stintsOf (endsOf F L) ((pacesOf l).take k) d)⟩] [])) (fun _ _ iv _ => l.length - (intOf iv).toNat)
  case atStart => exact ⟨0, none, 0, Nat.zero_le _, rfl, rfl, rfl, Lib.hid ((Sy.enter w).onil _ 3)⟩
  case round =>
    obtain ⟨k, a1, c1, hk, rfl, rfl, rfl, hC⟩ := hrel
    by_cases hlt : k < l.length
    · obtain ⟨g0, o0, rfl⟩ := HS'.out.addr (by omega)
      obtain ⟨x0, x1, x2⟩ := (hC.out.sx HS'.out).atW hlt
      have HPT := Lib.hid (pacesOf_take l k hlt)
      have hp := HP.out _ (List.getElem_mem hlt)
      have hkl : ((pacesOf l).take k).length = k := by rw [List.length_take]; simp [pacesOf]; omega
      have HSN := Lib.hid (stints_snoc (endsOf F L) ((pacesOf l).take k) l[k].2.1 d)
      have HRN := Lib.hid (reach_snoc (endsOf F L) ((pacesOf l).take k) l[k].2.1 d)
      have hr1 := HR.out.reach_le (paces := (pacesOf l).take k) d
      have hr0 := reach_ge (endsOf F L) ((pacesOf l).take k) d
      have hsl := stints_len (endsOf F L) d ((pacesOf l).take k)
      have hLL := HR.out.2.1
      rw [hkl] at hsl HSN
      rw [← HPT.out] at HSN HRN
      clear hkl HPT
      generalize l[k] = x at *
      obtain ⟨u0, u1, u2⟩ := x
      have hp0 : 1 ≤ u1 := hp.1
      have hp1 : u1 ≤ 20000 := hp.2
      generalize hst : stintsOf (endsOf F L) ((pacesOf l).take k) d = st at *
      generalize hat : reachOf (endsOf F L) ((pacesOf l).take k) d = at0 at *
      clear hst hat hp
      have q0 : 0 ≤ u1 * d := Int.mul_nonneg (by omega) hd0
      have q1 : u1 * d ≤ 20000 * 1000000 := Int.mul_le_mul hp1 hd1 hd0 (by decide)
      dsimp only at x1 HSN HRN
      clear x0 x2
      go_wp2
      generalize u1 * d = pd at *
      go_loop [14, 15] (fun tv kv => ∃ j : Nat, j ≤ F.length ∧ tv = .int .i64 (nextEnd (F.take j) at0 (at0 + pd)) ∧ kv = .int .i64 j) (fun _ kv => F.length - (intOf kv).toNat)
      case atStart => exact ⟨0, Nat.zero_le _, rfl, rfl⟩
      case round =>
        obtain ⟨j, hj, rfl, rfl⟩ := hrel
        by_cases hjl : j < F.length
        · obtain ⟨gf, of, rfl⟩ := HS.out.addr (by omega)
          have y0 := (hC.out.sx HS.out).at1 hjl
          have HTN := Lib.hid (take_next F at0 (at0 + pd) hjl)
          generalize F[j] = f at *
          generalize nextEnd (F.take j) at0 (at0 + pd) = tu at *
          by_cases h1 : tu < f
          · by_cases h2 : f ≤ at0 + pd
            · rw [if_pos ⟨h1, h2⟩] at HTN
              go_wp2
              go_round
              case rel => exact ⟨j + 1, by omega, by rw [HTN.out], by go_num⟩
              case measure => simp [intOf]; omega
            · rw [if_neg (fun h => h2 h.2)] at HTN
              go_wp2
              go_round
              case rel => exact ⟨j + 1, by omega, by rw [HTN.out], by go_num⟩
              case measure => simp [intOf]; omega
          · rw [if_neg (fun h => h1 h.1)] at HTN
            go_wp2
            go_round
            case rel => exact ⟨j + 1, by omega, by rw [HTN.out], by go_num⟩
            case measure => simp [intOf]; omega
        · have hjF : F.take j = F := List.take_of_length_le (by omega)
          have hle : nextEnd F at0 (at0 + pd) ≤ L := nextEnd_le.2 ⟨hr1, fun e he _ => by have := (HR.out.frame e he).2; omega⟩
          have HNL := Lib.hid (next_last hle)
          have hng := nextEnd_ge (endsOf F L) at0 (at0 + pd)
          have hnl : nextEnd (endsOf F L) at0 (at0 + pd) ≤ L := nextEnd_le.2 ⟨hr1, fun e he _ => HR.out.ends_le e he⟩
          rw [hjF]
          clear hjF
          by_cases hL : L ≤ at0 + pd
          · rw [if_pos hL] at HNL
            rw [HNL.out] at hng hnl HSN HRN
            clear HNL hle
            by_cases hat : at0 < L
            · rw [if_pos hat] at HSN
              go_wp2_with (refine wpList_append_sy (o := ⟨some 69, _, _, _, _, _⟩) rfl (hC.out.onew wr.heap.size #[.int .i64 (k : Int), .int .i64 at0, .int .i64 L] 128 3 1 rfl (by omega) rfl) 0 1 rfl rfl _ _ _ rfl und_RStint info_RStint rfl (by omega) rfl rfl (by intro u hu; simp at hu; rcases hu with rfl | rfl | rfl <;> rfl) (by omega) (by omega) ?_; intro a3 c3 V hV; have hJ := Lib.hid hV; clear hV)
              go_roundw
              case rel =>
                refine ⟨k + 1, a3, c3, by omega, by rw [HSN.out, List.length_append]; rfl, by rw [HRN.out], by go_num, ?_⟩
                rw [HSN.out]
                have hLs : L3 (st ++ [((k : Int), at0, L)]) = L3 st ++ #[.int .i64 (k : Int), .int .i64 at0, .int .i64 L].toList := by rw [L3_append]; rfl
                rw [hLs, List.length_append]
                exact Lib.hid (hJ.out.thin (List.Sublist.refl _) (List.Sublist.cons_cons _ (List.nil_sublist _)))
              case measure => simp [intOf]; omega
            · rw [if_neg hat] at HSN
              have hte : L = at0 := by omega
              go_wp2
              go_roundw
              case rel => exact ⟨k + 1, a1, c1, by omega, by rw [HSN.out], by rw [HRN.out, hte], by go_num, by rw [HSN.out]; exact hC⟩
              case measure => simp [intOf]; omega
          · rw [if_neg hL] at HNL
            rw [HNL.out] at hng hnl HSN HRN
            clear HNL
            generalize nextEnd F at0 (at0 + pd) = tu at *
            by_cases hat : at0 < tu
            · rw [if_pos hat] at HSN
              go_wp2_with (refine wpList_append_sy (o := ⟨some 69, _, _, _, _, _⟩) rfl (hC.out.onew wr.heap.size #[.int .i64 (k : Int), .int .i64 at0, .int .i64 tu] 128 3 1 rfl (by omega) rfl) 0 1 rfl rfl _ _ _ rfl und_RStint info_RStint rfl (by omega) rfl rfl (by intro u hu; simp at hu; rcases hu with rfl | rfl | rfl <;> rfl) (by omega) (by omega) ?_; intro a3 c3 V hV; have hJ := Lib.hid hV; clear hV)
              go_roundw
              case rel =>
                refine ⟨k + 1, a3, c3, by omega, by rw [HSN.out, List.length_append]; rfl, by rw [HRN.out], by go_num, ?_⟩
                rw [HSN.out]
                have hLs : L3 (st ++ [((k : Int), at0, tu)]) = L3 st ++ #[.int .i64 (k : Int), .int .i64 at0, .int .i64 tu].toList := by rw [L3_append]; rfl
                rw [hLs, List.length_append]
                exact Lib.hid (hJ.out.thin (List.Sublist.refl _) (List.Sublist.cons_cons _ (List.nil_sublist _)))
              case measure => simp [intOf]; omega
            · rw [if_neg hat] at HSN
              have hte : tu = at0 := by omega
              go_wp2
              go_roundw
              case rel => exact ⟨k + 1, a1, c1, by omega, by rw [HSN.out], by rw [HRN.out, hte], by go_num, by rw [HSN.out]; exact hC⟩
              case measure => simp [intOf]; omega
    · obtain rfl : k = l.length := by omega
      have ht : (pacesOf l).take l.length = pacesOf l := List.take_of_length_le (by simp [pacesOf])
      rw [ht] at hC
      rw [ht]
      go_wp2
      go_ret2
      exact ⟨_, _, rfl, hC.out.gives 0 rfl, hC.out.be⟩
end
end Go.Proofs.YteogibpmpppgmaaGreat

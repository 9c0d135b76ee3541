/- the reference's Allot -/
import Derived.Test.YteogibpmpppgmaaK4
import Derived.Test.YteogibpmpppgmaaM9
namespace Go.Proofs.Yteogibpmpppgmaa
open Go.RowKit

/-- the one to be served next, of the first i -/
def Sel (l : List I2) (nums : List Int) (i : Nat) (x : Int) : Prop := (x = -1 ∧ ∀ k, k < i → ¬ nums.getD k (-1) < 0) ∨ ∃ j : Nat, x = (j : Int) ∧ j < i ∧ nums.getD j (-1) < 0 ∧ ∀ k, k < i → nums.getD k (-1) < 0 → k = j ∨ before l j k
theorem sel_skip {l : List I2} {nums : List Int} {i : Nat} {x : Int} (h : Sel l nums i x) (hn : ¬ nums.getD i (-1) < 0) : Sel l nums (i + 1) x := by
  rcases h with ⟨rfl, h⟩ | ⟨j, rfl, h1, h2, h3⟩
  · refine .inl ⟨rfl, fun k hk => ?_⟩
    rcases Nat.lt_or_ge k i with h4 | h4
    · exact h k h4
    · rw [show k = i by omega]; exact hn
  · refine .inr ⟨j, rfl, by omega, h2, fun k hk hkn => ?_⟩
    rcases Nat.lt_or_ge k i with h4 | h4
    · exact h3 k h4 hkn
    · rw [show k = i by omega] at hkn; exact absurd hkn hn
theorem sel_first {l : List I2} {nums : List Int} {i : Nat} (h : Sel l nums i (-1)) (hn : nums.getD i (-1) < 0) : Sel l nums (i + 1) (i : Int) := by
  rcases h with ⟨-, h⟩ | ⟨j, h0, -⟩
  · refine .inr ⟨i, rfl, by omega, hn, fun k hk hkn => ?_⟩
    rcases Nat.lt_or_ge k i with h4 | h4
    · exact absurd hkn (h k h4)
    · exact .inl (by omega)
  · omega
theorem sel_less {l : List I2} {nums : List Int} {i j : Nat} (h : Sel l nums i (j : Int)) (hn : nums.getD i (-1) < 0) (hf : (at0 l i).1 < (at0 l j).1) : Sel l nums (i + 1) (i : Int) := by
  rcases h with ⟨h0, -⟩ | ⟨j', h0, h1, h2, h3⟩
  · omega
  · obtain rfl : j' = j := by omega
    refine .inr ⟨i, rfl, by omega, hn, fun k hk hkn => ?_⟩
    rcases Nat.lt_or_ge k i with h4 | h4
    · right
      rcases h3 k h4 hkn with rfl | h5
      · exact .inl hf
      · unfold before at h5 ⊢; omega
    · exact .inl (by omega)
theorem sel_keep {l : List I2} {nums : List Int} {i j : Nat} (h : Sel l nums i (j : Int)) (hf : ¬ (at0 l i).1 < (at0 l j).1) : Sel l nums (i + 1) (j : Int) := by
  rcases h with ⟨h0, -⟩ | ⟨j', h0, h1, h2, h3⟩
  · omega
  · obtain rfl : j' = j := by omega
    refine .inr ⟨j', rfl, by omega, h2, fun k hk hkn => ?_⟩
    rcases Nat.lt_or_ge k i with h4 | h4
    · exact h3 k h4 hkn
    · obtain rfl : k = i := by omega
      right
      unfold before; omega
theorem sel_end {l : List I2} {order : List Nat} (hg : ∀ u ∈ l, goodUse u) (ho : InOrder l order) {r : Nat} (hr : r < l.length) {x : Int} (h : Sel l (allotRun l (order.take r)).1 l.length x) : ∃ (hr2 : r < order.length), x = (order[r] : Nat) ∧ order[r] < l.length := by
  have hlen : order.length = l.length := by rw [ho.1.length_eq, List.length_range]
  have hmem : ∀ i, i ∈ order ↔ i < l.length := fun i => by rw [ho.1.mem_iff, List.mem_range]
  have hnd : order.Nodup := ho.1.nodup_iff.2 List.nodup_range
  have I := allot_inv hg (fun i hi => (hmem i).1 hi) hnd ho.2 r (by omega)
  have hr2 : r < order.length := by omega
  have hor : order[r] < l.length := (hmem _).1 (List.getElem_mem hr2)
  have hnt : order[r] ∉ order.take r := fun hm => by
    obtain ⟨t, ht, e⟩ := List.mem_take_iff_getElem.1 hm
    have := (List.getElem_inj hnd).1 e
    omega
  have hun : (allotRun l (order.take r)).1.getD order[r] (-1) < 0 := by rw [I.un _ hnt]; omega
  refine ⟨hr2, ?_, hor⟩
  rcases h with ⟨-, h⟩ | ⟨j, rfl, h1, h2, h3⟩
  · exact absurd hun (h _ hor)
  · have hjt : j ∉ order.take r := fun hm => by
      obtain ⟨m, e, _⟩ := I.as j hm
      omega
    obtain ⟨t, ht, e⟩ := List.getElem_of_mem ((hmem j).2 h1)
    have htr : r ≤ t := by
      apply Classical.byContradiction
      intro hlt
      exact hjt (List.mem_take_iff_getElem.2 ⟨t, by omega, e⟩)
    rcases h3 _ hor hun with h4 | h4
    · rw [h4]
    · rcases Nat.lt_or_ge r t with h5 | h5
      · have h6 := List.pairwise_iff_getElem.1 ho.2 r t hr2 ht h5
        rw [e] at h6
        unfold before at h4 h6
        omega
      · obtain rfl : t = r := by omega
        rw [e]
theorem rep_snoc (k : Nat) : L1 (List.replicate (k + 1) (-1)) = L1 (List.replicate k (-1)) ++ [.int .i64 (-1)] := by
  rw [List.replicate_succ', L1_append]
  rfl
theorem L1_set (l : List Int) (i : Nat) (v : Int) : (L1 l).set i (.int .i64 v) = L1 (l.set i v) := by unfold L1; rw [List.map_set]
theorem run_step {l : List I2} {order : List Nat} {r : Nat} (h : r < order.length) : (allotRun l (order.take (r + 1))).1 = (allotRun l (order.take r)).1.set order[r] (numFor l (allotRun l (order.take r)).1 order[r] : Int) := by
  rw [List.take_succ_eq_append_getElem h, allot_snoc]
  rfl
theorem peak_take {l : List I2} {k : Nat} (h : k < l.length) : (l.take (k + 1)).foldl (peakStep l) (0, 0) = peakStep l ((l.take k).foldl (peakStep l) (0, 0)) l[k] := by
  rw [List.take_succ_eq_append_getElem h, List.foldl_append]
  rfl
theorem row_at {w W : World} {bs : List (Nat × Array Value × TypeId)} {os : List Rw} {rs : List (World → Prop)} (h : Sy w W bs os rs) (i : Nat) {g n c : Nat} {G : List Int} {e : TypeId} (hi : os[i]? = some ⟨.slice (some ⟨g, 0, none⟩) n c, e, 1, n, L1 G⟩) (hl : G.length = n) {k : Nat} (hk : k < n) (d : Int) : W.cell? ⟨g, k, none⟩ = some (.int .i64 (G.getD k d)) :=
  h.rcell i hi (by unfold L1; rw [List.getElem?_map, List.getD_eq_getElem?_getD, List.getElem?_eq_getElem (by omega)]; rfl)
section
variable (w : World)
def RetRefAllot (w : World) (l : List I2) (order : List Nat) (e : Ending) (w' : World) : Prop := ∃ (a : Option Addr) (c : Nat), e = .returned (.tuple #[.slice a l.length c, .int .i64 (peak l).1, .int .i64 (peak l).2]) ∧
  w'.ownsRow w.heap.size 3 1 (.slice a l.length c) l.length (L1 (allotRun l order).1) ∧ Below w.heap.size w w'
set_option maxRecDepth 100000 in
set_option maxHeartbeats 16000000 in
theorem refAllot_any (a0 : Option Addr) (n0 c0 : Nat) (l : List I2) (order : List Nat) (hs : Sx 2 w a0 n0 c0 (L2 l)) (hg : ∀ u ∈ l, goodUse u) (hl : l.length ≤ 60) (ho : InOrder l order) : Calls Try.prog 20 #[.slice a0 n0 c0] w (RetRefAllot w l order) := by
  obtain rfl := hs.n2
  have HS := Lib.hid hs
  have HG := Lib.hid hg
  have HO := Lib.hid ho
  have hol : order.length = l.length := by rw [ho.1.length_eq, List.length_range]
  clear hs hg ho
  go_enter Try.func20, Try.ntmps20
  go_wp2
  go_loopw [5, 6] (fun ov iv wr => ∃ (k : Nat) (a : Option Addr) (c : Nat), k ≤ l.length ∧ ov = .slice a k c ∧ iv = .int .i64 k ∧ Hid (Sy w wr [] [⟨.slice a k c, 3, 1, k, L1 (List.replicate k (-1))⟩] [])) (fun _ iv _ => l.length - (intOf iv).toNat)
  case atStart => exact ⟨0, none, 0, Nat.zero_le _, rfl, rfl, Lib.hid ((Sy.enter w).onil _ 1)⟩
  case round =>
    obtain ⟨k, a, c, hk, rfl, rfl, hC⟩ := hrel
    by_cases hlt : k < l.length
    · have hkk : (k : Int) < (l.length : Int) := by omega
      go_wp2_with (refine wpList_append_sy (o := ⟨some 24, _, _, _, _, _⟩) rfl (hC.out.onew wr.heap.size #[.int .i64 (-1)] 3 1 1 rfl (by omega) rfl) 0 1 rfl rfl _ _ _ rfl und_int info_int rfl (by omega) rfl rfl (by intro u hu; simp at hu; subst hu; rfl) (by omega) (by omega) ?_; intro a3 c3 V hV; have hJ := Lib.hid hV; clear hV)
      go_roundw
      case rel => exact ⟨k + 1, a3, c3, by omega, rfl, by go_num, by rw [rep_snoc]; exact Lib.hid (hJ.out.thin (List.Sublist.refl _) (List.Sublist.cons_cons _ (List.nil_sublist _)))⟩
      case measure => simp [intOf]; omega
    · have hkk : ¬ (k : Int) < (l.length : Int) := by omega
      obtain rfl : k = l.length := by omega
      go_wp2
      go_loopw [9] (fun rv wr => ∃ r : Nat, r ≤ l.length ∧ rv = .int .i64 r ∧ Hid (Sy w wr [] [⟨.slice a l.length c, 3, 1, l.length, L1 (allotRun l (order.take r)).1⟩] [])) (fun rv _ => l.length - (intOf rv).toNat)
      case atStart => exact ⟨0, Nat.zero_le _, rfl, hC⟩
      case round =>
        clear hC
        obtain ⟨r, hr, rfl, hC⟩ := hrel
        by_cases hrl : r < l.length
        · have hrr : (r : Int) < (l.length : Int) := by omega
          obtain ⟨g, rfl, hcg⟩ := hC.out.oaddr 0 rfl (by omega)
          obtain ⟨g0, o0, rfl⟩ := HS.out.addr (by omega)
          have HSE := Lib.hid (fun x (h : Sel l (allotRun l (order.take r)).1 l.length x) => sel_end HG.out HO.out hrl h)
          have hro : r < order.length := by omega
          have HRS := Lib.hid (run_step (l := l) hro)
          have hnl := allot_len (l := l) (order.take r)
          generalize (allotRun l (order.take r)).1 = nums at *
          go_wp2
          go_loopw [10, 11] (fun xv iv wr => ∃ (i : Nat) (x : Int), i ≤ l.length ∧ xv = .int .i64 x ∧ iv = .int .i64 i ∧ Hid (Sel l nums i x) ∧ Hid (Sy w wr [] [⟨.slice (some ⟨g, 0, none⟩) l.length c, 3, 1, l.length, L1 nums⟩] [])) (fun _ iv _ => l.length - (intOf iv).toNat)
          case atStart => exact ⟨0, -1, Nat.zero_le _, rfl, rfl, Lib.hid (.inl ⟨rfl, fun k h => absurd h (Nat.not_lt_zero k)⟩), hC⟩
          case round =>
            clear hC
            obtain ⟨i, x, hi, rfl, rfl, HSL, hC⟩ := hrel
            by_cases hil : i < l.length
            · have hii : (i : Int) < (l.length : Int) := by omega
              have i0 : (0 : Int) ≤ (i : Int) := by omega
              have x0 := row_at hC.out 0 rfl hnl hil (-1)
              have HK := Lib.hid (show ¬ nums.getD i (-1) < 0 → Sel l nums (i + 1) x from fun h => sel_skip HSL.out h)
              have HF := Lib.hid (show nums.getD i (-1) < 0 → x = -1 → Sel l nums (i + 1) (i : Int) from fun h e => sel_first (by rw [← e]; exact HSL.out) h)
              have HL := Lib.hid (show nums.getD i (-1) < 0 → ∀ j : Nat, x = (j : Int) → (at0 l i).1 < (at0 l j).1 → Sel l nums (i + 1) (i : Int) from fun h j e hf => sel_less (by rw [← e]; exact HSL.out) h hf)
              have HE := Lib.hid (show ∀ j : Nat, x = (j : Int) → ¬ (at0 l i).1 < (at0 l j).1 → Sel l nums (i + 1) x from fun j e hf => by rw [e]; exact sel_keep (by rw [← e]; exact HSL.out) hf)
              have hsl := HSL.out
              generalize nums.getD i (-1) = v at *
              by_cases hv : v < 0
              rotate_left
              · have HG1 := Lib.hid (HK.out hv)
                have dv := decide_eq_false hv
                clear HK HF HL HE hsl
                go_upto_region 14 with fail
                go_big_quiet (fail)
                have hS1 := Lib.hid (hC.out.call (below_dN (Below.refl _ _) nq))
                go_wp2
                go_roundw
                case rel => exact ⟨i + 1, x, by omega, rfl, by go_num, HG1, hS1⟩
                case measure => simp [intOf]; omega
              by_cases hx : x = -1
              · have HG1 := Lib.hid (HF.out hv hx)
                have hx0 : x < 0 := by omega
                clear HK HF HL HE hsl hx
                go_upto_region 14 with fail
                go_big_quiet (fail)
                have hS1 := Lib.hid (hC.out.call (below_dN (Below.refl _ _) nq))
                go_wp2
                go_roundw
                case rel => exact ⟨i + 1, i, by omega, rfl, by go_num, HG1, hS1⟩
                case measure => simp [intOf]; omega
              · obtain ⟨j, hxj, hji⟩ : ∃ j : Nat, x = (j : Int) ∧ j < i := by
                  rcases hsl with ⟨h, -⟩ | ⟨j, h, h2, -⟩
                  · exact absurd h hx
                  · exact ⟨j, h, h2⟩
                have hx0 : ¬ x < 0 := by omega
                have dx := decide_eq_false hx0
                have hjl : j < l.length := by omega
                have y0 := ((hC.out.sx HS.out).at2 hil).1
                have y1 := ((hC.out.sx HS.out).at2 hjl).1
                rw [← at0_at hil] at y0
                rw [← at0_at hjl] at y1
                have HLT := Lib.hid (HL.out hv j hxj)
                have HGE := Lib.hid (HE.out j hxj)
                have HXJ := Lib.hid hxj
                clear HK HF HL HE hsl hx
                subst hxj
                have j0 : (0 : Int) ≤ (j : Int) := by omega
                have j1 : (j : Int) < (l.length : Int) := by omega
                generalize (at0 l i).1 = fi at *
                generalize (at0 l j).1 = fj at *
                by_cases hf : fi < fj
                · have HG1 := Lib.hid (HLT.out hf)
                  clear HLT HGE
                  go_upto_region 14 with fail
                  go_big_quiet (fail)
                  have hS1 := Lib.hid (hC.out.call (below_dN (Below.refl _ _) nq))
                  go_wp2
                  go_roundw
                  case rel => exact ⟨i + 1, i, by omega, rfl, by go_num, HG1, hS1⟩
                  case measure => simp [intOf]; omega
                · have HG1 := Lib.hid (HGE.out hf)
                  have df := decide_eq_false hf
                  clear HLT HGE
                  go_upto_region 14 with fail
                  go_big_quiet (fail)
                  have hS1 := Lib.hid (hC.out.call (below_dN (Below.refl _ _) nq))
                  go_wp2
                  go_roundw
                  case rel => exact ⟨i + 1, j, by omega, rfl, by go_num, HG1, hS1⟩
                  case measure => simp [intOf]; omega
            · have hii : ¬ (i : Int) < (l.length : Int) := by omega
              obtain rfl : i = l.length := by omega
              obtain ⟨hr2, hxe, hxl⟩ := HSE.out x HSL.out
              obtain ⟨j, hj⟩ : ∃ j, order[r] = j := ⟨_, rfl⟩
              rw [hj] at hxe hxl HRS
              subst hxe
              clear HSL HSE hj
              have HNF := Lib.hid (numFor_spec (l := l) nums j)
              have HNE := Lib.hid (fun m => numFor_eq (l := l) (nums := nums) (i := j) (m := m))
              have HTI := Lib.hid (fun m => taken_iff (l := l) (nums := nums) (i := j) (m := m))
              generalize numFor l nums j = nf at *
              have hnf := HNF.out.2.2
              have j0 : (0 : Int) ≤ (j : Int) := by omega
              have j1 : (j : Int) < (l.length : Int) := by omega
              go_wp2
              go_loopw [12, 13] (fun mv kv wr => ∃ m k : Nat, m ≤ nf ∧ k ≤ l.length ∧ mv = .int .i64 m ∧ kv = .int .i64 k ∧ Hid (∀ m', m' < m → takenB l nums j m' = true) ∧ Hid (∀ k', k' < k → ¬ (nums.getD k' (-1) = (m : Int) ∧ meetsB (at0 l k') (at0 l j) = true)) ∧ Hid (Sy w wr [] [⟨.slice (some ⟨g, 0, none⟩) l.length c, 3, 1, l.length, L1 nums⟩] [])) (fun mv kv _ => (61 - (intOf mv).toNat) * 62 + (61 - (intOf kv).toNat))
              case atStart => exact ⟨0, 0, Nat.zero_le _, Nat.zero_le _, rfl, rfl, Lib.hid (fun m h => absurd h (Nat.not_lt_zero m)), Lib.hid (fun k h => absurd h (Nat.not_lt_zero k)), hC⟩
              case round =>
                clear hC
                obtain ⟨m, k, hm, hk, rfl, rfl, HM, HKK, hC⟩ := hrel
                by_cases hkl : k < l.length
                · have hkk : (k : Int) < (l.length : Int) := by omega
                  have k0 : (0 : Int) ≤ (k : Int) := by omega
                  have HX0 := Lib.hid (fun W (h : Sy w W [] [⟨.slice (some ⟨g, 0, none⟩) l.length c, 3, 1, l.length, L1 nums⟩] []) => row_at h 0 rfl hnl hkl (-1))
                  have HLK := Lib.hid (fun W (hW : Below w.heap.size w W) => (HS.out.below hW).at2 hkl)
                  have HLI := Lib.hid (fun W (hW : Below w.heap.size w W) => (HS.out.below hW).at2 hxl)
                  have HMT := Lib.hid (fun W => by
                    have h := together_any W l[k] l[j]
                    rw [together_meets (HG.out _ (List.getElem_mem hkl)) (HG.out _ (List.getElem_mem hxl))] at h
                    exact h)
                  have HCL := Lib.hid (show takenB l nums j m = true ∨ ¬ (nums.getD k (-1) = (m : Int) ∧ meetsB l[k] l[j] = true) from by
                    by_cases h : nums.getD k (-1) = (m : Int) ∧ meetsB l[k] l[j] = true
                    · exact .inl ((HTI.out m).2 ⟨k, hkl, h.1, by rw [at0_at hkl, at0_at hxl]; exact h.2⟩)
                    · exact .inr h)
                  have HNX := Lib.hid (show ¬ (nums.getD k (-1) = (m : Int) ∧ meetsB l[k] l[j] = true) → ∀ k', k' < k + 1 → ¬ (nums.getD k' (-1) = (m : Int) ∧ meetsB (at0 l k') (at0 l j) = true) from fun h k' hk' => by
                    rcases Nat.lt_or_ge k' k with h4 | h4
                    · exact HKK.out k' h4
                    · obtain rfl : k' = k := by omega
                      rw [at0_at hkl, at0_at hxl]; exact h)
                  have HUP := Lib.hid (show takenB l nums j m = true → m < nf ∧ ∀ m', m' < m + 1 → takenB l nums j m' = true from fun h => by
                    refine ⟨?_, fun m' hm' => ?_⟩
                    · rcases Nat.lt_or_ge m nf with h4 | h4
                      · exact h4
                      · obtain rfl : m = nf := by omega
                        have := HNF.out.2.1
                        rw [h] at this; cases this
                    · rcases Nat.lt_or_ge m' m with h4 | h4
                      · exact HM.out m' h4
                      · rw [show m' = m by omega]; exact h)
                  clear HKK
                  generalize l[k] = p at *
                  generalize l[j] = q at *
                  obtain ⟨p0, p1⟩ := p
                  obtain ⟨q0, q1⟩ := q
                  dsimp only at HLK HLI HMT
                  generalize nums.getD k (-1) = nk at *
                  by_cases hnn : nk = (m : Int)
                  · have hnb2 : (nk == (m : Int)) = true := beq_iff_eq.2 hnn
                    have HNN := Lib.hid hnn
                    clear hnn
                    go_upto_region 20 with fail
                    refine wp_region_held_drew (S := (fun w' => w'.cell? ⟨g, k, none⟩ = some (.int .i64 nk) ∧ w'.cell? ⟨g0, o0 + k * 2, none⟩ = some (.int .i64 p0) ∧ w'.cell? ⟨g0, o0 + k * 2 + 1, none⟩ = some (.int .i64 p1) ∧ w'.cell? ⟨g0, o0 + j * 2, none⟩ = some (.int .i64 q0) ∧ w'.cell? ⟨g0, o0 + j * 2 + 1, none⟩ = some (.int .i64 q1) ∧ True)) (by kernel_rfl) ⟨HX0.out _ hC.out.drew, (HLK.out _ hC.out.drew.be).1, (HLK.out _ hC.out.drew.be).2, (HLI.out _ hC.out.drew.be).1, (HLI.out _ hC.out.drew.be).2, trivial⟩ (fun hH => ?_)
                    refine wpAnyH_geny (show Sy w _ [] [⟨.slice (some ⟨g, 0, none⟩) l.length c, 3, 1, l.length, L1 nums⟩] [] from hC.out.drew) hH ?_
                    intro VRA_0 hc hHRA_0
                    have hVRA_0 := Lib.hid hc
                    clear hc hH hC
                    refine wpAnyH_take (i := 0) (oi := ⟨_, _, _, _, _, _⟩) (v := ?_) rfl (by kernel_rfl) (by kernel_rfl) (by kernel_rfl) (fun _ _ _ h => h) (Or.inl ⟨by rfl, ?_⟩) hHRA_0 ?_
                    rotate_left
                    · intro wS hSw; (try dsimp only at hSw); go_simp; try with_reducible rfl
                    try simp only [Act.put, List.setIfInBounds_toArray, List.set_cons_zero, List.set_cons_succ]
                    refine wpAnyH_take (i := 1) (oi := ⟨_, _, _, _, _, _⟩) (v := ?_) rfl (by kernel_rfl) (by kernel_rfl) (by kernel_rfl) (fun _ _ _ h => h) (Or.inl ⟨by rfl, ?_⟩) hHRA_0 ?_
                    rotate_left
                    · intro wS hSw; (try dsimp only at hSw); go_simp; try with_reducible rfl
                    try simp only [Act.put, List.setIfInBounds_toArray, List.set_cons_zero, List.set_cons_succ]
                    refine wpAnyH_take (i := 2) (oi := ⟨_, _, _, _, _, _⟩) (v := ?_) rfl (by kernel_rfl) (by kernel_rfl) (by kernel_rfl) (fun _ _ _ h => h) (Or.inl ⟨by rfl, ?_⟩) hHRA_0 ?_
                    rotate_left
                    · intro wS hSw; (try dsimp only at hSw); go_simp; try with_reducible rfl
                    try simp only [Act.put, List.setIfInBounds_toArray, List.set_cons_zero, List.set_cons_succ]
                    refine wpAnyH_take (i := 3) (oi := ⟨_, _, _, _, _, _⟩) (v := ?_) rfl (by kernel_rfl) (by kernel_rfl) (by kernel_rfl) (fun _ _ _ h => h) (Or.inl ⟨by rfl, ?_⟩) hHRA_0 ?_
                    rotate_left
                    · intro wS hSw; (try dsimp only at hSw); go_simp; try with_reducible rfl
                    try simp only [Act.put, List.setIfInBounds_toArray, List.set_cons_zero, List.set_cons_succ]
                    refine wpAnyH_take (i := 4) (oi := ⟨_, _, _, _, _, _⟩) (v := ?_) rfl (by kernel_rfl) (by kernel_rfl) (by kernel_rfl) (fun _ _ _ h => h) (Or.inl ⟨by rfl, ?_⟩) hHRA_0 ?_
                    rotate_left
                    · intro wS hSw; (try dsimp only at hSw); go_simp; try with_reducible rfl
                    try simp only [Act.put, List.setIfInBounds_toArray, List.set_cons_zero, List.set_cons_succ]
                    refine wpAnyH_take (i := 5) (oi := ⟨_, _, _, _, _, _⟩) (v := ?_) rfl (by kernel_rfl) (by kernel_rfl) (by kernel_rfl) (fun _ _ _ h => h) (Or.inl ⟨by rfl, ?_⟩) hHRA_0 ?_
                    rotate_left
                    · intro wS hSw; (try dsimp only at hSw); go_simp; try with_reducible rfl
                    try simp only [Act.put, List.setIfInBounds_toArray, List.set_cons_zero, List.set_cons_succ]
                    refine wpAnyH_take (i := 6) (oi := ⟨_, _, _, _, _, _⟩) (v := ?_) rfl (by kernel_rfl) (by kernel_rfl) (by kernel_rfl) (fun _ _ _ h => h) (Or.inl ⟨by rfl, ?_⟩) hHRA_0 ?_
                    rotate_left
                    · intro wS hSw; (try dsimp only at hSw); go_simp; try with_reducible rfl
                    try simp only [Act.put, List.setIfInBounds_toArray, List.set_cons_zero, List.set_cons_succ]
                    refine wpAnyH_take (i := 7) (oi := ⟨_, _, _, _, _, _⟩) (v := ?_) rfl (by kernel_rfl) (by kernel_rfl) (by kernel_rfl) (fun _ _ _ h => h) (Or.inl ⟨by rfl, ?_⟩) hHRA_0 ?_
                    rotate_left
                    · intro wS hSw; (try dsimp only at hSw); go_simp; try with_reducible rfl
                    try simp only [Act.put, List.setIfInBounds_toArray, List.set_cons_zero, List.set_cons_succ]
                    refine wpAnyH_take (i := 8) (oi := ⟨_, _, _, _, _, _⟩) (v := ?_) rfl (by kernel_rfl) (by kernel_rfl) (by kernel_rfl) (fun _ _ _ h => h) (Or.inl ⟨by rfl, ?_⟩) hHRA_0 ?_
                    rotate_left
                    · intro wS hSw; (try dsimp only at hSw); go_simp; try with_reducible rfl
                    try simp only [Act.put, List.setIfInBounds_toArray, List.set_cons_zero, List.set_cons_succ]
                    refine wpAnyH_take (i := 9) (oi := ⟨_, _, _, _, _, _⟩) (v := ?_) rfl (by kernel_rfl) (by kernel_rfl) (by kernel_rfl) (fun _ _ _ h => h) (Or.inl ⟨by rfl, ?_⟩) hHRA_0 ?_
                    rotate_left
                    · intro wS hSw; (try dsimp only at hSw); go_simp; try with_reducible rfl
                    try simp only [Act.put, List.setIfInBounds_toArray, List.set_cons_zero, List.set_cons_succ]
                    refine wpAnyH_take (i := 10) (oi := ⟨_, _, _, _, _, _⟩) (v := ?_) rfl (by kernel_rfl) (by kernel_rfl) (by kernel_rfl) (fun _ _ _ h => h) (Or.inl ⟨by rfl, ?_⟩) hHRA_0 ?_
                    rotate_left
                    · intro wS hSw; (try dsimp only at hSw); go_simp; try with_reducible rfl
                    try simp only [Act.put, List.setIfInBounds_toArray, List.set_cons_zero, List.set_cons_succ]
                    refine wpAnyH_take (i := 11) (oi := ⟨_, _, _, _, _, _⟩) (v := ?_) rfl (by kernel_rfl) (by kernel_rfl) (by kernel_rfl) (fun _ _ _ h => h) (Or.inl ⟨by rfl, ?_⟩) hHRA_0 ?_
                    rotate_left
                    · intro wS hSw; (try dsimp only at hSw); go_simp; try with_reducible rfl
                    try simp only [Act.put, List.setIfInBounds_toArray, List.set_cons_zero, List.set_cons_succ]
                    refine wpAnyH_take (i := 12) (oi := ⟨_, _, _, _, _, _⟩) (v := ?_) rfl (by kernel_rfl) (by kernel_rfl) (by kernel_rfl) (fun _ _ _ h => h) (Or.inl ⟨by rfl, ?_⟩) hHRA_0 ?_
                    rotate_left
                    · intro wS hSw; (try dsimp only at hSw); go_simp; try with_reducible rfl
                    try simp only [Act.put, List.setIfInBounds_toArray, List.set_cons_zero, List.set_cons_succ]
                    refine wpAnyH_take (i := 13) (oi := ⟨_, _, _, _, _, _⟩) (v := ?_) rfl (by kernel_rfl) (by kernel_rfl) (by kernel_rfl) (fun _ _ _ h => h) (Or.inl ⟨by rfl, ?_⟩) hHRA_0 ?_
                    rotate_left
                    · intro wS hSw; (try dsimp only at hSw); go_simp; try with_reducible rfl
                    try simp only [Act.put, List.setIfInBounds_toArray, List.set_cons_zero, List.set_cons_succ]
                    refine wpAnyH_take (i := 14) (oi := ⟨_, _, _, _, _, _⟩) (v := ?_) rfl (by kernel_rfl) (by kernel_rfl) (by kernel_rfl) (fun _ _ _ h => h) (Or.inl ⟨by rfl, ?_⟩) hHRA_0 ?_
                    rotate_left
                    · intro wS hSw; (try dsimp only at hSw); go_simp; try with_reducible rfl
                    try simp only [Act.put, List.setIfInBounds_toArray, List.set_cons_zero, List.set_cons_succ]
                    refine wpAnyH_ready (rs := [15]) (by kernel_rfl) (by simp) ?_
                    refine AllReadyH.cons (o := ⟨_, _, _, _, _, _⟩) rfl (fun Kq hKq => ?_) AllReadyH.nil
                    go_simp
                    go_at_call 49
                    refine (HMT.out _).mono ?_
                    rintro e wT ⟨rfl, hb⟩
                    (try go_wp2_with fail)
                    refine stepY hKq (show Sy w _ [] [⟨.slice (some ⟨g, 0, none⟩) l.length c, 3, 1, l.length, L1 nums⟩] [] from (hVRA_0.out.call hb)) (fun _ hX => ⟨HX0.out _ hX, (HLK.out _ hX.be).1, (HLK.out _ hX.be).2, (HLI.out _ hX.be).1, (HLI.out _ hX.be).2, trivial⟩) ?_
                    intro VRA_1 hc hHRA_1
                    have hVRA_1 := Lib.hid hc
                    clear hc hKq Kq hVRA_0 hb hHRA_0
                    try simp only [Act.put, List.setIfInBounds_toArray, List.set_cons_zero, List.set_cons_succ]
                    refine wpAnyH_take (i := 16) (oi := ⟨_, _, _, _, _, _⟩) (v := ?_) rfl (by kernel_rfl) (by kernel_rfl) (by kernel_rfl) (fun _ _ _ h => h) (Or.inl ⟨by rfl, ?_⟩) hHRA_1 ?_
                    rotate_left
                    · intro wS hSw; (try dsimp only at hSw); go_simp; try with_reducible rfl
                    try simp only [Act.put, List.setIfInBounds_toArray, List.set_cons_zero, List.set_cons_succ]
                    refine wpAnyH_done (by kernel_rfl) ?_ _
                    cases hmt : meetsB (p0, p1) (q0, q1)
                    · have HQ2 := Lib.hid (HNX.out (fun h => by rw [hmt] at h; cases h.2))
                      clear hmt
                      go_wp2
                      go_roundw
                      case rel => exact ⟨m, k + 1, hm, by omega, rfl, by go_num, HM, HQ2, hVRA_1⟩
                      case measure => simp [intOf]; omega
                    · have HT := Lib.hid (HUP.out (by rcases HCL.out with h | h; exact h; exact absurd ⟨HNN.out, hmt⟩ h))
                      have hmn := HT.out.1
                      clear hmt
                      go_wp2
                      go_roundw
                      case rel => exact ⟨m + 1, 0, by omega, Nat.zero_le _, by go_num, by go_num, Lib.hid HT.out.2, Lib.hid (fun k h => absurd h (Nat.not_lt_zero k)), hVRA_1⟩
                      case measure => simp [intOf]; omega
                  · have hnb2 : (nk == (m : Int)) = false := beq_eq_false_iff_ne.2 hnn
                    have HQ2 := Lib.hid (HNX.out (fun h => hnn h.1))
                    have x0 := HX0.out _ hC.out
                    clear HNX HUP HCL HMT HLK HLI HX0
                    go_upto_region 20 with fail
                    go_big_quiet (fail)
                    have hS1 := Lib.hid (hC.out.call (below_dN (Below.refl _ _) nq))
                    go_wp2
                    go_roundw
                    case rel => exact ⟨m, k + 1, hm, by omega, rfl, by go_num, HM, HQ2, hS1⟩
                    case measure => simp [intOf]; omega
                · have hkk : ¬ (k : Int) < (l.length : Int) := by omega
                  have hne : nf = m := HNE.out m HM.out (by
                    cases ht : takenB l nums j m
                    · rfl
                    · obtain ⟨k', h1, h2, h3⟩ := (HTI.out m).1 ht
                      exact absurd ⟨h2, h3⟩ (HKK.out k' (by omega)))
                  subst hne
                  have y0 := row_at hC.out 0 rfl hnl hxl (-1)
                  have y1 := hC.out.rfree 0 rfl j
                  have hS := Lib.hid (hC.out.ostore 0 rfl j (.int .i64 (nf : Nat)))
                  generalize nums.getD j (-1) = vj at *
                  clear HM HKK HNF HNE HTI hC
                  go_wp2
                  go_roundw
                  case rel => exact ⟨r + 1, by omega, by go_num, by
                    have h := hS.out
                    rw [L1_set, ← HRS.out] at h
                    exact Lib.hid h⟩
                  case measure => simp [intOf]; omega
        · have hrr : ¬ (r : Int) < (l.length : Int) := by omega
          rw [List.take_of_length_le (show order.length ≤ r by omega)] at hC
          go_wp2
          go_loopw [7, 8, 14] (fun nv dv iv wr => ∃ k : Nat, k ≤ l.length ∧ nv = .int .i64 ((l.take k).foldl (peakStep l) (0, 0)).1 ∧ dv = .int .i64 ((l.take k).foldl (peakStep l) (0, 0)).2 ∧ iv = .int .i64 k ∧ Hid (Sy w wr [] [⟨.slice a l.length c, 3, 1, l.length, L1 (allotRun l order).1⟩] [])) (fun _ _ iv _ => l.length - (intOf iv).toNat)
          case atStart => exact ⟨0, Nat.zero_le _, rfl, rfl, rfl, hC⟩
          case round =>
            clear hC
            obtain ⟨k, hk, rfl, rfl, rfl, hC⟩ := hrel
            by_cases hkl : k < l.length
            · have hkk : (k : Int) < (l.length : Int) := by omega
              have k0 : (0 : Int) ≤ (k : Int) := by omega
              obtain ⟨g0, o0, rfl⟩ := HS.out.addr (by omega)
              have HX := Lib.hid (fun W (hW : Below w.heap.size w W) => ((HS.out.below hW).at2 hkl).1)
              have HPK := Lib.hid (peak_take (l := l) hkl)
              obtain ⟨f, hf⟩ : ∃ f, l[k].1 = f := ⟨_, rfl⟩
              rw [hf] at HX
              have HPS := Lib.hid (show ∀ s : Int × Int, peakStep l s l[k] = if s.1 < (onB l f : Int) ∨ (onB l f : Int) = s.1 ∧ f < s.2 then ((onB l f : Int), f) else s from fun s => by unfold peakStep; rw [hf])
              have HON := Lib.hid (fun W (hW : Below w.heap.size w W) => refOn_any W (some ⟨g0, o0, none⟩) _ c0 l f (HS.out.below hW))
              clear hf
              rw [HPS.out] at HPK
              clear HPS
              generalize (l.take k).foldl (peakStep l) (0, 0) = s at *
              obtain ⟨sn, sd⟩ := s
              generalize (onB l f : Int) = cn at *
              dsimp only at HPK ⊢
              have x0 := HX.out _ hC.out.be
              go_wp2_with fail
              refine (HON.out _ hC.out.be).mono ?_
              rintro e V ⟨rfl, hb⟩
              have hD := Lib.hid (hC.out.call hb)
              clear hb hC x0
              have x0 := HX.out _ hD.out.be
              by_cases h1 : sn < cn
              · rw [if_pos (.inl h1)] at HPK
                have h1' : cn > sn := h1
                go_wp2
                go_big_quiet (fail)
                have hS1 := Lib.hid (hD.out.call (below_dN (Below.refl _ _) nq))
                go_wp2
                go_roundw
                case rel => exact ⟨k + 1, by omega, by rw [HPK.out], by rw [HPK.out], by go_num, hS1⟩
                case measure => simp [intOf]; omega
              · have h1' : ¬ cn > sn := h1
                have h1d := decide_eq_false h1
                by_cases h2 : cn = sn
                · have h2b : (cn == sn) = true := beq_iff_eq.2 h2
                  have HEQ := Lib.hid h2
                  by_cases h3 : f < sd
                  · rw [if_pos (.inr ⟨h2, h3⟩)] at HPK
                    clear h2
                    go_wp2
                    go_big_quiet (fail)
                    have hS1 := Lib.hid (hD.out.call (below_dN (Below.refl _ _) nq))
                    go_wp2
                    go_roundw
                    case rel => exact ⟨k + 1, by omega, by rw [HPK.out], by rw [HPK.out], by go_num, hS1⟩
                    case measure => simp [intOf]; omega
                  · rw [if_neg (fun h => by rcases h with h | h; exact h1 h; exact h3 h.2)] at HPK
                    clear h2
                    go_wp2
                    go_roundw
                    case rel => exact ⟨k + 1, by omega, by rw [HPK.out], by rw [HPK.out], by go_num, hD⟩
                    case measure => simp [intOf]; omega
                · have h2b : (cn == sn) = false := beq_eq_false_iff_ne.2 h2
                  rw [if_neg (fun h => by rcases h with h | h; exact h1 h; exact h2 h.1)] at HPK
                  go_wp2
                  go_roundw
                  case rel => exact ⟨k + 1, by omega, by rw [HPK.out], by rw [HPK.out], by go_num, hD⟩
                  case measure => simp [intOf]; omega
            · have hkk : ¬ (k : Int) < (l.length : Int) := by omega
              have ht : l.take k = l := List.take_of_length_le (by omega)
              rw [ht]
              go_wp2
              go_ret3
              exact ⟨a, c, rfl, hC.out.gives 0 rfl, hC.out.be⟩
end
section
variable (w : World)
set_option maxRecDepth 100000 in
set_option maxHeartbeats 8000000 in
theorem gangAllots_walk (a : Option Addr) (m c : Nat) (l : List I2) (hs : Sx 2 w a m c (L2 l)) : Calls Try.prog 5 #[.slice a m c] w (Gives (.bool true) w) := by
  have hcap := hs.cap
  unfold maxLen at hcap
  obtain rfl := hs.n2
  have HW := Lib.hid wakes_any
  have HS := Lib.hid hs
  have HU := Lib.hid (fun W (h : Below w.heap.size w W) => (show Calls Try.prog 19 #[.slice a l.length c] W (Gives (.bool (!usesBad l)) W) from refUses_any a _ c l W (hs.below h)))
  clear hs
  by_cases h70 : (l.length : Int) > 70
  · go_enter Try.func5, Try.ntmps5
    go_wp2_with fail
    refine (HW.out _).mono ?_
    rintro e V ⟨rfl, hb⟩
    have hD := Lib.hid ((Sy.enter w).call hb)
    clear hb
    go_wp2
    go_ret
    exact ⟨rfl, hD.out.be⟩
  have HCU := Lib.hid (fun W (h : Below w.heap.size w W) => conv_Use a _ c l W (HS.out.below h) (by omega))
  cases hb : usesBad l
  rotate_left
  · have HAB := Lib.hid (fun W (b : Option Addr) (d : Nat) (h : Sx 2 W b l.length d (L2 l)) => allot_bad W b l.length d l h hb)
    rw [hb] at HU
    clear hb
    go_enter Try.func5, Try.ntmps5
    go_wp2_with fail
    refine (HCU.out _ (Below.refl _ _)).mono ?_
    rintro e V2 ⟨a5, c5, rfl, hr, hb⟩
    have hB := Lib.hid ((Sy.enter w).adopt hb hr)
    clear hb hr
    go_wp2_with fail
    refine (HAB.out _ _ _ (hB.out.osx 0 rfl)).mono ?_
    rintro e V3 ⟨rfl, hb⟩
    have hC := Lib.hid (hB.out.call hb)
    clear hb hB
    go_wp2_with fail
    refine (HU.out _ hC.out.be).mono ?_
    rintro e V4 ⟨rfl, hb⟩
    have hD := Lib.hid (hC.out.call hb)
    clear hb hC
    go_wp2_with fail
    refine (HW.out _).mono ?_
    rintro e V ⟨rfl, hb⟩
    have hE := Lib.hid (hD.out.call hb)
    clear hb
    go_wp2
    go_ret
    exact ⟨rfl, hE.out.be⟩
  obtain ⟨h60, hg⟩ := uses_good hb
  rw [hb] at HU
  have HRA := Lib.hid (fun W (order : List Nat) (ho : InOrder l order) (h : Below w.heap.size w W) => refAllot_any W a l.length c l order (HS.out.below h) hg h60 ho)
  unfold RetRefAllot at HRA
  by_cases hl : l = []
  · subst hl
    have HAN := Lib.hid (fun W b d h => allot_nil W b d h)
    have HRB := Lib.hid (fun W (h : Below w.heap.size w W) => HRA.out W [] ⟨List.Perm.refl _, List.Pairwise.nil⟩ h)
    have HIN := Lib.hid (fun W (b : Option Addr) (d : Nat) (h : Sx 1 W b 0 d (L1 [])) => (show Calls Try.prog 13 #[.slice none 0 0, .slice b 0 d] W (Gives (.bool true) W) from ints_any none b 0 0 0 d [] [] W Sx.nil h))
    clear hb hg h60 HRA
    go_enter Try.func5, Try.ntmps5
    go_wp2_with fail
    refine (HCU.out _ (Below.refl _ _)).mono ?_
    rintro e V2 ⟨a5, c5, rfl, hr, hb⟩
    have hB := Lib.hid ((Sy.enter w).adopt hb hr)
    clear hb hr
    go_wp2_with fail
    refine (HAN.out _ _ _ (hB.out.osx 0 rfl)).mono ?_
    rintro e V3 ⟨rfl, hb⟩
    have hC := Lib.hid (hB.out.call hb)
    clear hb hB
    go_wp2_with fail
    refine (HU.out _ hC.out.be).mono ?_
    rintro e V4 ⟨rfl, hb⟩
    have hD := Lib.hid (hC.out.call hb)
    clear hb hC
    go_wp2_with fail
    refine (HRB.out _ hD.out.be).mono ?_
    rintro e V5 ⟨a6, c6, rfl, hr, hb⟩
    have hE := Lib.hid (hD.out.adopt hb hr)
    clear hb hr hD
    go_wp2_with fail
    refine (HIN.out _ _ _ (hE.out.osx 1 rfl)).mono ?_
    rintro e V6 ⟨rfl, hb⟩
    have hF := Lib.hid (hE.out.call hb)
    clear hb hE
    go_wp2_with fail
    refine (HW.out _).mono ?_
    rintro e V ⟨rfl, hb⟩
    have hG := Lib.hid (hF.out.call hb)
    clear hb
    go_wp2
    go_ret
    exact ⟨rfl, hG.out.be⟩
  · have hpos : 0 < l.length := List.length_pos_iff.2 hl
    have HAO := Lib.hid (fun W (b : Option Addr) (d : Nat) (h : Sx 2 W b l.length d (L2 l)) => allot_ok W b l.length d l h hb hpos (sorts_all h60))
    have HPK := Lib.hid (fun order (ho : InOrder l order) => (allot_peak hg ho).1)
    clear hb hg h60 hl
    go_enter Try.func5, Try.ntmps5
    go_wp2_with fail
    refine (HCU.out _ (Below.refl _ _)).mono ?_
    rintro e V2 ⟨a5, c5, rfl, hr, hb⟩
    have hB := Lib.hid ((Sy.enter w).adopt hb hr)
    clear hb hr
    go_wp2_with fail
    refine (HAO.out _ _ _ (hB.out.osx 0 rfl)).mono ?_
    rintro e V3 ⟨order, a7, c7, ho, rfl, hr, hb⟩
    have hC := Lib.hid (hB.out.adopt hb hr)
    have HRB := Lib.hid (fun W (h : Below w.heap.size w W) => HRA.out W order ho h)
    have hpk := HPK.out order ho
    rw [hpk]
    clear hb hr hB ho hpk HRA HPK
    generalize (allotRun l order).1 = ns at *
    generalize (peak l).1 = N at *
    generalize (peak l).2 = D at *
    have HIN := Lib.hid (fun W (b b' : Option Addr) (d d' : Nat) (h0 : Sx 1 W b l.length d (L1 ns)) (h1 : Sx 1 W b' l.length d' (L1 ns)) => (show Calls Try.prog 13 #[.slice b l.length d, .slice b' l.length d'] W (Gives (.bool true) W) from by
      have h := ints_any b b' l.length d l.length d' ns ns W h0 h1
      rw [decide_eq_true rfl] at h
      exact h))
    go_wp2_with fail
    refine (HU.out _ hC.out.be).mono ?_
    rintro e V4 ⟨rfl, hb⟩
    have hD := Lib.hid (hC.out.call hb)
    clear hb hC
    go_wp2_with fail
    refine (HRB.out _ hD.out.be).mono ?_
    rintro e V5 ⟨a6, c6, rfl, hr, hb⟩
    have hE := Lib.hid (hD.out.adopt hb hr)
    clear hb hr hD
    go_wp2_with fail
    refine (HIN.out _ _ _ _ _ (hE.out.osx 1 rfl) (hE.out.osx 2 rfl)).mono ?_
    rintro e V6 ⟨rfl, hb⟩
    have hF := Lib.hid (hE.out.call hb)
    clear hb hE
    go_wp2_with fail
    refine (HW.out _).mono ?_
    rintro e V ⟨rfl, hb⟩
    have hG := Lib.hid (hF.out.call hb)
    clear hb
    go_wp2
    go_ret
    exact ⟨rfl, hG.out.be⟩
end
end Go.Proofs.Yteogibpmpppgmaa

/- gang.Days: the least number of days -/
import Derived.Test.YtchignmnnbepnaaGreatJ18
namespace Go.Proofs.YtchignmnnbepnaaGreat
open Go.RowKit

theorem ascB_iff {L : Int} : ∀ (F : List Int) (last : Int), last < L → (ascB last L F = true ↔ (last :: (F ++ [L])).Pairwise (· < ·)) := by
  intro F
  induction F with
  | nil => intro last h; simp [ascB, h]
  | cons f r ih =>
    intro last h
    unfold ascB
    simp only [Bool.and_eq_true, decide_eq_true_eq, List.cons_append]
    constructor
    · rintro ⟨⟨h1, h2⟩, h3⟩
      have h4 := (ih f h2).1 h3
      refine List.pairwise_cons.2 ⟨fun x hx => ?_, h4⟩
      rcases List.mem_cons.1 hx with rfl | hx
      · exact h1
      · have := (List.pairwise_cons.1 h4).1 x hx
        omega
    · intro h1
      obtain ⟨h2, h3⟩ := List.pairwise_cons.1 h1
      have h4 : f < L := (List.pairwise_cons.1 h3).1 L (by simp)
      exact ⟨⟨h2 f (List.mem_cons_self ..), h4⟩, (ih f h4).2 h3⟩
theorem gangB_len {l : List WL} (h : gangB l = true) : 1 ≤ l.length ∧ l.length ≤ 12 := by
  unfold gangB at h
  have := inB_iff.1 (Bool.and_eq_true_iff.1 h).1
  omega
theorem gangB_row {l : List WL} (h : gangB l = true) : ∀ x ∈ l, (1 ≤ x.2.1 ∧ x.2.1 ≤ 20000) ∧ (0 ≤ x.2.2 ∧ x.2.2 ≤ 1000000) ∧ namedB x.1 = true := by
  unfold gangB at h
  intro x hx
  obtain ⟨i, hi, rfl⟩ := List.getElem_of_mem hx
  have h1 := List.all_eq_true.1 (Bool.and_eq_true_iff.1 h).2 i (List.mem_range.2 hi)
  rw [List.getD_eq_getElem?_getD, List.getElem?_eq_getElem hi] at h1
  simp only [Option.getD_some, badW, Bool.not_eq_true', Bool.or_eq_false_iff, Bool.not_eq_false'] at h1
  exact ⟨inB_iff.1 h1.1.2, inB_iff.1 h1.2, h1.1.1.2⟩
theorem gangB_paces {l : List WL} (h : gangB l = true) : RightP (pacesOf l) := by
  refine ⟨fun e => ?_, fun p hp => ?_⟩
  · have := (gangB_len h).1
    rw [show l = [] from List.map_eq_nil_iff.1 e] at this
    simp at this
  · obtain ⟨x, hx, rfl⟩ := List.mem_map.1 hp
    exact (gangB_row h x hx).1
theorem rightB_iff {L : Int} {F : List Int} {l : List WL} : rightB L F l = true ↔ RightF F L ∧ F.length ≤ 60 ∧ gangB l = true := by
  unfold rightB RightF
  simp only [Bool.and_eq_true, inB_iff, decide_eq_true_eq]
  constructor
  · rintro ⟨⟨⟨h1, h2⟩, h3⟩, h4⟩
    exact ⟨⟨h1.1, h1.2, (ascB_iff F 0 (by omega)).1 h4⟩, h2, h3⟩
  · rintro ⟨⟨h1, h2, h3⟩, h4, h5⟩
    exact ⟨⟨⟨⟨h1, h2⟩, h4⟩, h5⟩, (ascB_iff F 0 (by omega)).2 h3⟩
section
variable (w : World)
set_option maxHeartbeats 2000000 in
set_option maxRecDepth 100000 in
theorem days1_any (i bw bl : Nat) (a a' : Option Addr) (n c n' c' : Nat) (L : Int) (F : List Int) (l : List WL) (hs : Sx 1 w a n c (L1 F)) (hs' : Sx 3 w a' n' c' (LW l)) (hR : RightF F L) (hF : F.length ≤ 60) (hl : l.length ≤ 12) (hp : ∀ x ∈ l, 1 ≤ x.2.1 ∧ x.2.1 ≤ 20000)
    (hi : (i : Int) < L) (h0 : w.cell? ⟨bw, 0, none⟩ = some (.int .i64 L)) (h1 : w.cell? ⟨bw, 1, none⟩ = some (.slice a n c)) (h2 : w.cell? ⟨bw, 2, none⟩ = some (.slice a' n' c')) (h3 : w.cell? ⟨bl, 0, none⟩ = some (.int .i64 L)) (hlt : bl < w.heap.size) :
    Calls Tryz.prog 39 #[.int .i64 i, .pointer (some ⟨bw, 0, none⟩), .pointer (some ⟨bl, 0, none⟩)] w (Gives (.bool (decide (reachOf (endsOf F L) (pacesOf l) ((i : Int) + 1) = L))) w) := by
  have hL := hR.2.1
  have HC := Lib.hid (eager_any w a a' n c n' c' L ((i : Int) + 1) F l hs hs' hR hF hl hp (by omega) (by omega))
  have HB := Lib.hid (fun W (hW : Below w.heap.size w W) => (World.cell?_of_block (a := ⟨bl, 0, none⟩) (hW.block bl hlt)).trans h3)
  clear hs hs' hR hp
  go_enter Tryz.func39, Tryz.ntmps39
  go_wp2_with fail
  refine HC.out.mono ?_
  rintro e wT ⟨aS, cS, rfl, hr, hb⟩
  have H3 := HB.out wT hb
  generalize reachOf (endsOf F L) (pacesOf l) ((i : Int) + 1) = r at *
  have hB := Lib.hid hb
  clear hb hr h3 h0 h1 h2
  go_wp2
  go_ret
  exact ⟨rfl, hB.out⟩
theorem eg_days1 : EG 39 := enters_of Tryz.func39 (by kernel_rfl) rfl
def RetDays (w : World) (L : Int) (F : List Int) (l : List WL) (e : Ending) (w' : World) : Prop := ∃ a c, e = .returned (.tuple #[.int .i64 (daysOf F L (pacesOf l)), .slice a (stintsOf (endsOf F L) (pacesOf l) (daysOf F L (pacesOf l))).length c, .int .i64 0]) ∧ w'.ownsRow w.heap.size 59 3 (.slice a (stintsOf (endsOf F L) (pacesOf l) (daysOf F L (pacesOf l))).length c) (stintsOf (endsOf F L) (pacesOf l) (daysOf F L (pacesOf l))).length (L3 (stintsOf (endsOf F L) (pacesOf l) (daysOf F L (pacesOf l)))) ∧ Below w.heap.size w w'
set_option maxHeartbeats 8000000 in
set_option maxRecDepth 100000 in
theorem days_ok (a a' : Option Addr) (n c n' c' : Nat) (L : Int) (F : List Int) (l : List WL) (hs : Sx 1 w a n c (L1 F)) (hs' : Sx 3 w a' n' c' (LW l)) (hn : ∀ x ∈ l, x.1.size ≤ maxLen) (hb : rightB L F l = true) :
    Calls Tryz.prog 20 #[.int .i64 L, .slice a n c, .slice a' n' c'] w (RetDays w L F l) := by
  obtain ⟨hR, hF, hg⟩ := rightB_iff.1 hb
  have hl := (gangB_len hg).2
  have hp : ∀ x ∈ l, 1 ≤ x.2.1 ∧ x.2.1 ≤ 20000 := fun x hx => (gangB_row hg x hx).1
  have HD := Lib.hid (daysOf_spec hR (gangB_paces hg))
  have HSP := Lib.hid (fun d d' : Int => reach_up (d := d) (d' := d') hR (gangB_paces hg))
  have HW := Lib.hid (fun W (hW : Below w.heap.size w W) => wrong_any W a a' n c n' c' L F l (hs.below hW) (hs'.below hW) hn)
  rw [hb] at HW
  have HRL := Lib.hid (fun d : Int => hR.reach_le (paces := pacesOf l) d)
  have hL1 := hR.1
  have hL2 := hR.2.1
  obtain ⟨N, rfl⟩ : ∃ N : Nat, L = N := ⟨L.toNat, by omega⟩
  have HE := Lib.hid (fun W (hW : Below w.heap.size w W) d h0 h1 => eager_any W a a' n c n' c' N d F l (hs.below hW) (hs'.below hW) hR hF hl hp h0 h1)
  have H1 := Lib.hid (fun W (hW : Below w.heap.size w W) i bw bl => days1_any W i bw bl a a' n c n' c' N F l (hs.below hW) (hs'.below hW) hR hF hl hp)
  have HDN := Lib.hid (show daysOf F N (pacesOf l) = 1 + (List.range N).countP (fun i : Nat => !decide (reachOf (endsOf F N) (pacesOf l) ((i : Int) + 1) = N)) from rfl)
  clear hs hs' hn hb hR hp hg
  go_enter Tryz.func20, Tryz.ntmps20
  go_wp2_with fail
  refine (HW.out _ (below2 _ _ _)).mono ?_
  rintro e w1 ⟨rfl, hb⟩
  have hC := Lib.hid ((((Sy.enter w).al w.heap.size #[.int .i64 N] 3 rfl).al (w.heap.size + 1) #[.int .i64 N, .slice a n c, .slice a' n' c'] 104 (by simp)).call hb)
  clear hb HW
  have c0 := hC.out.cell 0 0 rfl rfl
  have c1 := hC.out.cell 1 0 rfl rfl
  have c2 := hC.out.cell 1 1 rfl rfl
  have c3 := hC.out.cell 1 2 rfl rfl
  have hS := search_any w1 39 #[.pointer (some ⟨w.heap.size + 1, 0, none⟩), .pointer (some ⟨w.heap.size, 0, none⟩)] N (fun i : Nat => decide (reachOf (endsOf F N) (pacesOf l) ((i : Int) + 1) = N)) eg_days1 (by omega)
    (fun W hW i hi => by
      have hD := hC.out.call hW
      exact H1.out W hD.be i (w.heap.size + 1) w.heap.size (by omega) (hD.cell 1 0 rfl rfl) (hD.cell 1 1 rfl rfl) (hD.cell 1 2 rfl rfl) (hD.cell 0 0 rfl rfl) (hD.lt 0 rfl))
    (fun x y hxy hy hx => decide_eq_true (HSP.out (x + 1) (y + 1) (by omega) (of_decide_eq_true hx)))
  have HS := Lib.hid hS
  clear hS
  generalize hcp : (List.range N).countP (fun i : Nat => !decide (reachOf (endsOf F N) (pacesOf l) ((i : Int) + 1) = N)) = cp at *
  have hcl : cp ≤ N := by rw [← hcp]; have := List.countP_le_length (p := fun i : Nat => !decide (reachOf (endsOf F N) (pacesOf l) ((i : Int) + 1) = N)) (l := List.range N); simpa using this
  clear hcp
  go_wp2_with fail
  refine HS.out.mono ?_
  rintro e w2 ⟨rfl, hb⟩
  have hD := Lib.hid (hC.out.call hb)
  clear hb hC HS c0 c1 c2 c3
  have c0 := hD.out.cell 0 0 rfl rfl
  have c1 := hD.out.cell 1 0 rfl rfl
  have c2 := hD.out.cell 1 1 rfl rfl
  have c3 := hD.out.cell 1 2 rfl rfl
  go_wp2_with fail
  refine (HE.out w2 hD.out.be _ (by omega) (by omega)).mono ?_
  rintro e wT ⟨aS, cS, rfl, hr, hb⟩
  have hG := Lib.hid (hD.out.adopt hb hr)
  clear hb hr hD c0 c1 c2 c3
  go_wp2
  go_ret3
  unfold RetDays
  rw [HDN.out]
  rw [show ((1 + cp : Nat) : Int) = 1 + (cp : Int) by omega]
  exact ⟨aS, cS, rfl, hG.out.gives 0 rfl, hG.out.be⟩
end
end Go.Proofs.YtchignmnnbepnaaGreat

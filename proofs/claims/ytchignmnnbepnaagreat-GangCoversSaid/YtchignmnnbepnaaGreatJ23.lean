/- a sheet for the program -/
import Derived.Test.YtchignmnnbepnaaGreatJ16
import Derived.Test.YtchignmnnbepnaaGreatJ22
namespace Go.Proofs.YtchignmnnbepnaaGreat
open Go.RowKit
theorem L1_one (l : List Int) : ∀ u ∈ L1 l, u.oneCell' = true := by
  intro u hu
  obtain ⟨o, _, rfl⟩ := List.mem_map.1 hu
  rfl
def RetSheet (w : World) (s : Sht) (e : Ending) (w' : World) : Prop := ∃ t : Sht, t = { s with ha := t.ha, hc := t.hc } ∧ e = .returned (.agg (cS t).toArray) ∧ w'.ownsRow w.heap.size 3 1 (.slice t.ha t.hn t.hc) t.hn (L1 t.hs) ∧ Below w.heap.size w w'
section
variable (w : World)
set_option maxHeartbeats 32000000 in
set_option maxRecDepth 100000 in
theorem lSheet_any (s : Sht) (hs : Sx 1 w s.ha s.hn s.hc (L1 s.hs)) (hn : s.hn ≤ 1000) : Calls Tryz.prog 32 #[aS s] w (RetSheet w s) := by
  have HS := Lib.hid hs
  obtain ⟨V, hV⟩ : ∃ V, aS s = V := ⟨_, rfl⟩
  have HV := Lib.hid (show V.cells = #[.string s.name, .int .i64 s.base, .int .i64 s.batter, .int .i64 s.height, .int .i64 s.skin, .slice s.ha s.hn s.hc, .int .i64 s.least, .int .i64 s.lap, .int .i64 s.run, .int .i64 s.every, .int .i64 s.at_, .int .i64 s.footing, .int .i64 s.spread, .int .u8 s.cope, .int .i64 s.tall, .int .i64 s.short, .int .i64 s.thick, .int .i64 s.low, .int .i64 s.high, .int .i64 s.rood] by rw [← hV]; rfl)
  rw [hV]
  clear hs hV
  go_enter Tryz.func32, Tryz.ntmps32
  go_upto_region 1 with (first | (refine wpList_bx (o := ⟨some 1, _, _, _, _, _⟩) rfl (Sy.enter w) _ _ rfl #[.string s.name, .int .i64 s.base, .int .i64 s.batter, .int .i64 s.height, .int .i64 s.skin, .slice s.ha s.hn s.hc, .int .i64 s.least, .int .i64 s.lap, .int .i64 s.run, .int .i64 s.every, .int .i64 s.at_, .int .i64 s.footing, .int .i64 s.spread, .int .u8 s.cope, .int .i64 s.tall, .int .i64 s.short, .int .i64 s.thick, .int .i64 s.low, .int .i64 s.high, .int .i64 s.rood] HV.out ?_; intro b V1 h1; have hA := Lib.hid h1; clear h1) | (refine wpList_al (o := ⟨some 2, _, _, _, _, _⟩) rfl hA.out _ rfl zS zero_Sheet ?_; intro b2 V2 h2; have hB := Lib.hid h2; clear h2) | fail)
  have hC := Lib.hid (hB.out.onil 3 1)
  clear hA hB
  refine wp_region_held_drew (S := (fun w' => w'.cell? ⟨b, 0, none⟩ = some (.string s.name) ∧ w'.cell? ⟨b, 1, none⟩ = some (.int .i64 s.base) ∧ w'.cell? ⟨b, 2, none⟩ = some (.int .i64 s.batter) ∧ w'.cell? ⟨b, 3, none⟩ = some (.int .i64 s.height) ∧ w'.cell? ⟨b, 4, none⟩ = some (.int .i64 s.skin) ∧ w'.cell? ⟨b, 5, none⟩ = some (.slice s.ha s.hn s.hc) ∧ w'.cell? ⟨b, 6, none⟩ = some (.int .i64 s.least) ∧ w'.cell? ⟨b, 7, none⟩ = some (.int .i64 s.lap) ∧ w'.cell? ⟨b, 8, none⟩ = some (.int .i64 s.run) ∧ w'.cell? ⟨b, 9, none⟩ = some (.int .i64 s.every) ∧ w'.cell? ⟨b, 10, none⟩ = some (.int .i64 s.at_) ∧ w'.cell? ⟨b, 11, none⟩ = some (.int .i64 s.footing) ∧ w'.cell? ⟨b, 12, none⟩ = some (.int .i64 s.spread) ∧ w'.cell? ⟨b, 13, none⟩ = some (.int .u8 s.cope) ∧ w'.cell? ⟨b, 14, none⟩ = some (.int .i64 s.tall) ∧ w'.cell? ⟨b, 15, none⟩ = some (.int .i64 s.short) ∧ w'.cell? ⟨b, 16, none⟩ = some (.int .i64 s.thick) ∧ w'.cell? ⟨b, 17, none⟩ = some (.int .i64 s.low) ∧ w'.cell? ⟨b, 18, none⟩ = some (.int .i64 s.high) ∧ w'.cell? ⟨b, 19, none⟩ = some (.int .i64 s.rood) ∧ True)) (by kernel_rfl) ⟨hC.out.drew.cell 0 0 rfl rfl, hC.out.drew.cell 0 1 rfl rfl, hC.out.drew.cell 0 2 rfl rfl, hC.out.drew.cell 0 3 rfl rfl, hC.out.drew.cell 0 4 rfl rfl, hC.out.drew.cell 0 5 rfl rfl, hC.out.drew.cell 0 6 rfl rfl, hC.out.drew.cell 0 7 rfl rfl, hC.out.drew.cell 0 8 rfl rfl, hC.out.drew.cell 0 9 rfl rfl, hC.out.drew.cell 0 10 rfl rfl, hC.out.drew.cell 0 11 rfl rfl, hC.out.drew.cell 0 12 rfl rfl, hC.out.drew.cell 0 13 rfl rfl, hC.out.drew.cell 0 14 rfl rfl, hC.out.drew.cell 0 15 rfl rfl, hC.out.drew.cell 0 16 rfl rfl, hC.out.drew.cell 0 17 rfl rfl, hC.out.drew.cell 0 18 rfl rfl, hC.out.drew.cell 0 19 rfl rfl, trivial⟩ (fun hH => ?_)
  refine wpAnyH_geny (show Sy w _ [(b, #[.string s.name, .int .i64 s.base, .int .i64 s.batter, .int .i64 s.height, .int .i64 s.skin, .slice s.ha s.hn s.hc, .int .i64 s.least, .int .i64 s.lap, .int .i64 s.run, .int .i64 s.every, .int .i64 s.at_, .int .i64 s.footing, .int .i64 s.spread, .int .u8 s.cope, .int .i64 s.tall, .int .i64 s.short, .int .i64 s.thick, .int .i64 s.low, .int .i64 s.high, .int .i64 s.rood], 53), (b2, zS.cells, 92)] [⟨.slice none 0 0, 3, 1, 0, []⟩] [] from hC.out.drew) hH ?_
  intro VS_0 hc hHS_0
  have hVS_0 := Lib.hid hc
  clear hc hH hC
  refine wpAnyH_take (i := 0) (oi := ⟨_, _, _, _, _, _⟩) (v := ?_) rfl (by kernel_rfl) (by kernel_rfl) (by kernel_rfl) (fun _ _ _ h => h) (Or.inl ⟨by rfl, ?_⟩) hHS_0 ?_
  rotate_left
  · intro wS hSw; (try dsimp only at hSw); go_simp; try with_reducible rfl
  try simp only [Act.put, List.setIfInBounds_toArray, List.set_cons_zero, List.set_cons_succ]
  refine wpAnyH_take (i := 1) (oi := ⟨_, _, _, _, _, _⟩) (v := ?_) rfl (by kernel_rfl) (by kernel_rfl) (by kernel_rfl) (fun _ _ _ h => h) (Or.inl ⟨by rfl, ?_⟩) hHS_0 ?_
  rotate_left
  · intro wS hSw; (try dsimp only at hSw); go_simp; try with_reducible rfl
  try simp only [Act.put, List.setIfInBounds_toArray, List.set_cons_zero, List.set_cons_succ]
  refine wpAnyH_take (i := 2) (oi := ⟨_, _, _, _, _, _⟩) (v := ?_) rfl (by kernel_rfl) (by kernel_rfl) (by kernel_rfl) (fun _ _ _ h => h) (Or.inl ⟨by rfl, ?_⟩) hHS_0 ?_
  rotate_left
  · intro wS hSw; (try dsimp only at hSw); go_simp; try with_reducible rfl
  try simp only [Act.put, List.setIfInBounds_toArray, List.set_cons_zero, List.set_cons_succ]
  refine wpAnyH_take (i := 3) (oi := ⟨_, _, _, _, _, _⟩) (v := ?_) rfl (by kernel_rfl) (by kernel_rfl) (by kernel_rfl) (fun _ _ _ h => h) (Or.inl ⟨by rfl, ?_⟩) hHS_0 ?_
  rotate_left
  · intro wS hSw; (try dsimp only at hSw); go_simp; try with_reducible rfl
  try simp only [Act.put, List.setIfInBounds_toArray, List.set_cons_zero, List.set_cons_succ]
  refine wpAnyH_take (i := 4) (oi := ⟨_, _, _, _, _, _⟩) (v := ?_) rfl (by kernel_rfl) (by kernel_rfl) (by kernel_rfl) (fun _ _ _ h => h) (Or.inl ⟨by rfl, ?_⟩) hHS_0 ?_
  rotate_left
  · intro wS hSw; (try dsimp only at hSw); go_simp; try with_reducible rfl
  try simp only [Act.put, List.setIfInBounds_toArray, List.set_cons_zero, List.set_cons_succ]
  refine wpAnyH_take (i := 5) (oi := ⟨_, _, _, _, _, _⟩) (v := ?_) rfl (by kernel_rfl) (by kernel_rfl) (by kernel_rfl) (fun _ _ _ h => h) (Or.inl ⟨by rfl, ?_⟩) hHS_0 ?_
  rotate_left
  · intro wS hSw; (try dsimp only at hSw); go_simp; try with_reducible rfl
  try simp only [Act.put, List.setIfInBounds_toArray, List.set_cons_zero, List.set_cons_succ]
  refine wpAnyH_take (i := 6) (oi := ⟨_, _, _, _, _, _⟩) (v := ?_) rfl (by kernel_rfl) (by kernel_rfl) (by kernel_rfl) (fun _ _ _ h => h) (Or.inl ⟨by rfl, ?_⟩) hHS_0 ?_
  rotate_left
  · intro wS hSw; (try dsimp only at hSw); go_simp; try with_reducible rfl
  try simp only [Act.put, List.setIfInBounds_toArray, List.set_cons_zero, List.set_cons_succ]
  refine wpAnyH_take (i := 7) (oi := ⟨_, _, _, _, _, _⟩) (v := ?_) rfl (by kernel_rfl) (by kernel_rfl) (by kernel_rfl) (fun _ _ _ h => h) (Or.inl ⟨by rfl, ?_⟩) hHS_0 ?_
  rotate_left
  · intro wS hSw; (try dsimp only at hSw); go_simp; try with_reducible rfl
  try simp only [Act.put, List.setIfInBounds_toArray, List.set_cons_zero, List.set_cons_succ]
  refine wpAnyH_take (i := 8) (oi := ⟨_, _, _, _, _, _⟩) (v := ?_) rfl (by kernel_rfl) (by kernel_rfl) (by kernel_rfl) (fun _ _ _ h => h) (Or.inl ⟨by rfl, ?_⟩) hHS_0 ?_
  rotate_left
  · intro wS hSw; (try dsimp only at hSw); go_simp; try with_reducible rfl
  try simp only [Act.put, List.setIfInBounds_toArray, List.set_cons_zero, List.set_cons_succ]
  refine wpAnyH_take (i := 9) (oi := ⟨_, _, _, _, _, _⟩) (v := ?_) rfl (by kernel_rfl) (by kernel_rfl) (by kernel_rfl) (fun _ _ _ h => h) (Or.inl ⟨by rfl, ?_⟩) hHS_0 ?_
  rotate_left
  · intro wS hSw; (try dsimp only at hSw); go_simp; try with_reducible rfl
  try simp only [Act.put, List.setIfInBounds_toArray, List.set_cons_zero, List.set_cons_succ]
  refine wpAnyH_take (i := 10) (oi := ⟨_, _, _, _, _, _⟩) (v := ?_) rfl (by kernel_rfl) (by kernel_rfl) (by kernel_rfl) (fun _ _ _ h => h) (Or.inl ⟨by rfl, ?_⟩) hHS_0 ?_
  rotate_left
  · intro wS hSw; (try dsimp only at hSw); go_simp; try with_reducible rfl
  try simp only [Act.put, List.setIfInBounds_toArray, List.set_cons_zero, List.set_cons_succ]
  refine wpAnyH_take (i := 11) (oi := ⟨_, _, _, _, _, _⟩) (v := ?_) rfl (by kernel_rfl) (by kernel_rfl) (by kernel_rfl) (fun _ _ _ h => h) (Or.inl ⟨by rfl, ?_⟩) hHS_0 ?_
  rotate_left
  · intro wS hSw; (try dsimp only at hSw); go_simp; try with_reducible rfl
  try simp only [Act.put, List.setIfInBounds_toArray, List.set_cons_zero, List.set_cons_succ]
  refine wpAnyH_take (i := 13) (oi := ⟨_, _, _, _, _, _⟩) (v := ?_) rfl (by kernel_rfl) (by kernel_rfl) (by kernel_rfl) (fun _ _ _ h => h) (Or.inl ⟨by rfl, ?_⟩) hHS_0 ?_
  rotate_left
  · intro wS hSw; (try dsimp only at hSw); go_simp; try with_reducible rfl
  try simp only [Act.put, List.setIfInBounds_toArray, List.set_cons_zero, List.set_cons_succ]
  refine wpAnyH_take (i := 14) (oi := ⟨_, _, _, _, _, _⟩) (v := ?_) rfl (by kernel_rfl) (by kernel_rfl) (by kernel_rfl) (fun _ _ _ h => h) (Or.inl ⟨by rfl, ?_⟩) hHS_0 ?_
  rotate_left
  · intro wS hSw; (try dsimp only at hSw); go_simp; try with_reducible rfl
  try simp only [Act.put, List.setIfInBounds_toArray, List.set_cons_zero, List.set_cons_succ]
  refine wpAnyH_take (i := 15) (oi := ⟨_, _, _, _, _, _⟩) (v := ?_) rfl (by kernel_rfl) (by kernel_rfl) (by kernel_rfl) (fun _ _ _ h => h) (Or.inl ⟨by rfl, ?_⟩) hHS_0 ?_
  rotate_left
  · intro wS hSw; (try dsimp only at hSw); go_simp; try with_reducible rfl
  try simp only [Act.put, List.setIfInBounds_toArray, List.set_cons_zero, List.set_cons_succ]
  refine wpAnyH_take (i := 16) (oi := ⟨_, _, _, _, _, _⟩) (v := ?_) rfl (by kernel_rfl) (by kernel_rfl) (by kernel_rfl) (fun _ _ _ h => h) (Or.inl ⟨by rfl, ?_⟩) hHS_0 ?_
  rotate_left
  · intro wS hSw; (try dsimp only at hSw); go_simp; try with_reducible rfl
  try simp only [Act.put, List.setIfInBounds_toArray, List.set_cons_zero, List.set_cons_succ]
  refine wpAnyH_take (i := 17) (oi := ⟨_, _, _, _, _, _⟩) (v := ?_) rfl (by kernel_rfl) (by kernel_rfl) (by kernel_rfl) (fun _ _ _ h => h) (Or.inl ⟨by rfl, ?_⟩) hHS_0 ?_
  rotate_left
  · intro wS hSw; (try dsimp only at hSw); go_simp; try with_reducible rfl
  try simp only [Act.put, List.setIfInBounds_toArray, List.set_cons_zero, List.set_cons_succ]
  refine wpAnyH_take (i := 18) (oi := ⟨_, _, _, _, _, _⟩) (v := ?_) rfl (by kernel_rfl) (by kernel_rfl) (by kernel_rfl) (fun _ _ _ h => h) (Or.inl ⟨by rfl, ?_⟩) hHS_0 ?_
  rotate_left
  · intro wS hSw; (try dsimp only at hSw); go_simp; try with_reducible rfl
  try simp only [Act.put, List.setIfInBounds_toArray, List.set_cons_zero, List.set_cons_succ]
  refine wpAnyH_take (i := 19) (oi := ⟨_, _, _, _, _, _⟩) (v := ?_) rfl (by kernel_rfl) (by kernel_rfl) (by kernel_rfl) (fun _ _ _ h => h) (Or.inl ⟨by rfl, ?_⟩) hHS_0 ?_
  rotate_left
  · intro wS hSw; (try dsimp only at hSw); go_simp; try with_reducible rfl
  try simp only [Act.put, List.setIfInBounds_toArray, List.set_cons_zero, List.set_cons_succ]
  refine wpAnyH_take (i := 20) (oi := ⟨_, _, _, _, _, _⟩) (v := ?_) rfl (by kernel_rfl) (by kernel_rfl) (by kernel_rfl) (fun _ _ _ h => h) (Or.inl ⟨by rfl, ?_⟩) hHS_0 ?_
  rotate_left
  · intro wS hSw; (try dsimp only at hSw); go_simp; try with_reducible rfl
  try simp only [Act.put, List.setIfInBounds_toArray, List.set_cons_zero, List.set_cons_succ]
  refine wpAnyH_take (i := 21) (oi := ⟨_, _, _, _, _, _⟩) (v := ?_) rfl (by kernel_rfl) (by kernel_rfl) (by kernel_rfl) (fun _ _ _ h => h) (Or.inl ⟨by rfl, ?_⟩) hHS_0 ?_
  rotate_left
  · intro wS hSw; (try dsimp only at hSw); go_simp; try with_reducible rfl
  try simp only [Act.put, List.setIfInBounds_toArray, List.set_cons_zero, List.set_cons_succ]
  refine wpAnyH_take (i := 22) (oi := ⟨_, _, _, _, _, _⟩) (v := ?_) rfl (by kernel_rfl) (by kernel_rfl) (by kernel_rfl) (fun _ _ _ h => h) (Or.inl ⟨by rfl, ?_⟩) hHS_0 ?_
  rotate_left
  · intro wS hSw; (try dsimp only at hSw); go_simp; try with_reducible rfl
  try simp only [Act.put, List.setIfInBounds_toArray, List.set_cons_zero, List.set_cons_succ]
  refine wpAnyH_take (i := 23) (oi := ⟨_, _, _, _, _, _⟩) (v := ?_) rfl (by kernel_rfl) (by kernel_rfl) (by kernel_rfl) (fun _ _ _ h => h) (Or.inl ⟨by rfl, ?_⟩) hHS_0 ?_
  rotate_left
  · intro wS hSw; (try dsimp only at hSw); go_simp; try with_reducible rfl
  try simp only [Act.put, List.setIfInBounds_toArray, List.set_cons_zero, List.set_cons_succ]
  refine wpAnyH_take (i := 24) (oi := ⟨_, _, _, _, _, _⟩) (v := ?_) rfl (by kernel_rfl) (by kernel_rfl) (by kernel_rfl) (fun _ _ _ h => h) (Or.inl ⟨by rfl, ?_⟩) hHS_0 ?_
  rotate_left
  · intro wS hSw; (try dsimp only at hSw); go_simp; try with_reducible rfl
  try simp only [Act.put, List.setIfInBounds_toArray, List.set_cons_zero, List.set_cons_succ]
  refine wpAnyH_take (i := 25) (oi := ⟨_, _, _, _, _, _⟩) (v := ?_) rfl (by kernel_rfl) (by kernel_rfl) (by kernel_rfl) (fun _ _ _ h => h) (Or.inl ⟨by rfl, ?_⟩) hHS_0 ?_
  rotate_left
  · intro wS hSw; (try dsimp only at hSw); go_simp; try with_reducible rfl
  try simp only [Act.put, List.setIfInBounds_toArray, List.set_cons_zero, List.set_cons_succ]
  refine wpAnyH_take (i := 26) (oi := ⟨_, _, _, _, _, _⟩) (v := ?_) rfl (by kernel_rfl) (by kernel_rfl) (by kernel_rfl) (fun _ _ _ h => h) (Or.inl ⟨by rfl, ?_⟩) hHS_0 ?_
  rotate_left
  · intro wS hSw; (try dsimp only at hSw); go_simp; try with_reducible rfl
  try simp only [Act.put, List.setIfInBounds_toArray, List.set_cons_zero, List.set_cons_succ]
  refine wpAnyH_take (i := 27) (oi := ⟨_, _, _, _, _, _⟩) (v := ?_) rfl (by kernel_rfl) (by kernel_rfl) (by kernel_rfl) (fun _ _ _ h => h) (Or.inl ⟨by rfl, ?_⟩) hHS_0 ?_
  rotate_left
  · intro wS hSw; (try dsimp only at hSw); go_simp; try with_reducible rfl
  try simp only [Act.put, List.setIfInBounds_toArray, List.set_cons_zero, List.set_cons_succ]
  refine wpAnyH_take (i := 28) (oi := ⟨_, _, _, _, _, _⟩) (v := ?_) rfl (by kernel_rfl) (by kernel_rfl) (by kernel_rfl) (fun _ _ _ h => h) (Or.inl ⟨by rfl, ?_⟩) hHS_0 ?_
  rotate_left
  · intro wS hSw; (try dsimp only at hSw); go_simp; try with_reducible rfl
  try simp only [Act.put, List.setIfInBounds_toArray, List.set_cons_zero, List.set_cons_succ]
  refine wpAnyH_take (i := 29) (oi := ⟨_, _, _, _, _, _⟩) (v := ?_) rfl (by kernel_rfl) (by kernel_rfl) (by kernel_rfl) (fun _ _ _ h => h) (Or.inl ⟨by rfl, ?_⟩) hHS_0 ?_
  rotate_left
  · intro wS hSw; (try dsimp only at hSw); go_simp; try with_reducible rfl
  try simp only [Act.put, List.setIfInBounds_toArray, List.set_cons_zero, List.set_cons_succ]
  refine wpAnyH_take (i := 30) (oi := ⟨_, _, _, _, _, _⟩) (v := ?_) rfl (by kernel_rfl) (by kernel_rfl) (by kernel_rfl) (fun _ _ _ h => h) (Or.inl ⟨by rfl, ?_⟩) hHS_0 ?_
  rotate_left
  · intro wS hSw; (try dsimp only at hSw); go_simp; try with_reducible rfl
  try simp only [Act.put, List.setIfInBounds_toArray, List.set_cons_zero, List.set_cons_succ]
  refine wpAnyH_take (i := 31) (oi := ⟨_, _, _, _, _, _⟩) (v := ?_) rfl (by kernel_rfl) (by kernel_rfl) (by kernel_rfl) (fun _ _ _ h => h) (Or.inl ⟨by rfl, ?_⟩) hHS_0 ?_
  rotate_left
  · intro wS hSw; (try dsimp only at hSw); go_simp; try with_reducible rfl
  try simp only [Act.put, List.setIfInBounds_toArray, List.set_cons_zero, List.set_cons_succ]
  refine wpAnyH_take (i := 32) (oi := ⟨_, _, _, _, _, _⟩) (v := ?_) rfl (by kernel_rfl) (by kernel_rfl) (by kernel_rfl) (fun _ _ _ h => h) (Or.inl ⟨by rfl, ?_⟩) hHS_0 ?_
  rotate_left
  · intro wS hSw; (try dsimp only at hSw); go_simp; try with_reducible rfl
  try simp only [Act.put, List.setIfInBounds_toArray, List.set_cons_zero, List.set_cons_succ]
  refine wpAnyH_take (i := 33) (oi := ⟨_, _, _, _, _, _⟩) (v := ?_) rfl (by kernel_rfl) (by kernel_rfl) (by kernel_rfl) (fun _ _ _ h => h) (Or.inl ⟨by rfl, ?_⟩) hHS_0 ?_
  rotate_left
  · intro wS hSw; (try dsimp only at hSw); go_simp; try with_reducible rfl
  try simp only [Act.put, List.setIfInBounds_toArray, List.set_cons_zero, List.set_cons_succ]
  refine wpAnyH_take (i := 34) (oi := ⟨_, _, _, _, _, _⟩) (v := ?_) rfl (by kernel_rfl) (by kernel_rfl) (by kernel_rfl) (fun _ _ _ h => h) (Or.inl ⟨by rfl, ?_⟩) hHS_0 ?_
  rotate_left
  · intro wS hSw; (try dsimp only at hSw); go_simp; try with_reducible rfl
  try simp only [Act.put, List.setIfInBounds_toArray, List.set_cons_zero, List.set_cons_succ]
  refine wpAnyH_take (i := 35) (oi := ⟨_, _, _, _, _, _⟩) (v := ?_) rfl (by kernel_rfl) (by kernel_rfl) (by kernel_rfl) (fun _ _ _ h => h) (Or.inl ⟨by rfl, ?_⟩) hHS_0 ?_
  rotate_left
  · intro wS hSw; (try dsimp only at hSw); go_simp; try with_reducible rfl
  try simp only [Act.put, List.setIfInBounds_toArray, List.set_cons_zero, List.set_cons_succ]
  refine wpAnyH_take (i := 36) (oi := ⟨_, _, _, _, _, _⟩) (v := ?_) rfl (by kernel_rfl) (by kernel_rfl) (by kernel_rfl) (fun _ _ _ h => h) (Or.inl ⟨by rfl, ?_⟩) hHS_0 ?_
  rotate_left
  · intro wS hSw; (try dsimp only at hSw); go_simp; try with_reducible rfl
  try simp only [Act.put, List.setIfInBounds_toArray, List.set_cons_zero, List.set_cons_succ]
  refine wpAnyH_take (i := 37) (oi := ⟨_, _, _, _, _, _⟩) (v := ?_) rfl (by kernel_rfl) (by kernel_rfl) (by kernel_rfl) (fun _ _ _ h => h) (Or.inl ⟨by rfl, ?_⟩) hHS_0 ?_
  rotate_left
  · intro wS hSw; (try dsimp only at hSw); go_simp; try with_reducible rfl
  try simp only [Act.put, List.setIfInBounds_toArray, List.set_cons_zero, List.set_cons_succ]
  refine wpAnyH_take (i := 38) (oi := ⟨_, _, _, _, _, _⟩) (v := ?_) rfl (by kernel_rfl) (by kernel_rfl) (by kernel_rfl) (fun _ _ _ h => h) (Or.inl ⟨by rfl, ?_⟩) hHS_0 ?_
  rotate_left
  · intro wS hSw; (try dsimp only at hSw); go_simp; try with_reducible rfl
  try simp only [Act.put, List.setIfInBounds_toArray, List.set_cons_zero, List.set_cons_succ]
  refine wpAnyH_take (i := 39) (oi := ⟨_, _, _, _, _, _⟩) (v := ?_) rfl (by kernel_rfl) (by kernel_rfl) (by kernel_rfl) (fun _ _ _ h => h) (Or.inl ⟨by rfl, ?_⟩) hHS_0 ?_
  rotate_left
  · intro wS hSw; (try dsimp only at hSw); go_simp; try with_reducible rfl
  try simp only [Act.put, List.setIfInBounds_toArray, List.set_cons_zero, List.set_cons_succ]
  refine wpAnyH_take (i := 40) (oi := ⟨_, _, _, _, _, _⟩) (v := ?_) rfl (by kernel_rfl) (by kernel_rfl) (by kernel_rfl) (fun _ _ _ h => h) (Or.inl ⟨by rfl, ?_⟩) hHS_0 ?_
  rotate_left
  · intro wS hSw; (try dsimp only at hSw); go_simp; try with_reducible rfl
  try simp only [Act.put, List.setIfInBounds_toArray, List.set_cons_zero, List.set_cons_succ]
  refine wpAnyH_ready (rs := [12]) (by kernel_rfl) (by simp) ?_
  refine AllReadyH.cons (o := ⟨_, _, _, _, _, _⟩) rfl (fun Kq hKq => ?_) AllReadyH.nil
  rw [if_pos (by rfl)]
  refine op_append_sx hVS_0.out 0 rfl (hVS_0.out.sx HS.out) _ _ _ rfl und_int info_int rfl (by omega) rfl rfl (L1_one _) (by omega) (by omega) (fun aH cH _ hcc => ?_)
  refine stepY hKq (show Sy w _ [(b, #[.string s.name, .int .i64 s.base, .int .i64 s.batter, .int .i64 s.height, .int .i64 s.skin, .slice s.ha s.hn s.hc, .int .i64 s.least, .int .i64 s.lap, .int .i64 s.run, .int .i64 s.every, .int .i64 s.at_, .int .i64 s.footing, .int .i64 s.spread, .int .u8 s.cope, .int .i64 s.tall, .int .i64 s.short, .int .i64 s.thick, .int .i64 s.low, .int .i64 s.high, .int .i64 s.rood], 53), (b2, zS.cells, 92)] [⟨.slice aH (0 + s.hn) cH, 3, 1, 0 + s.hn, [] ++ L1 s.hs⟩] [] from hcc) (fun _ hX => ⟨hX.cell 0 0 rfl rfl, hX.cell 0 1 rfl rfl, hX.cell 0 2 rfl rfl, hX.cell 0 3 rfl rfl, hX.cell 0 4 rfl rfl, hX.cell 0 5 rfl rfl, hX.cell 0 6 rfl rfl, hX.cell 0 7 rfl rfl, hX.cell 0 8 rfl rfl, hX.cell 0 9 rfl rfl, hX.cell 0 10 rfl rfl, hX.cell 0 11 rfl rfl, hX.cell 0 12 rfl rfl, hX.cell 0 13 rfl rfl, hX.cell 0 14 rfl rfl, hX.cell 0 15 rfl rfl, hX.cell 0 16 rfl rfl, hX.cell 0 17 rfl rfl, hX.cell 0 18 rfl rfl, hX.cell 0 19 rfl rfl, trivial⟩) ?_
  intro VS_1 hc hHS_1
  have hVS_1 := Lib.hid hc
  clear hc hKq Kq hVS_0 hcc hHS_0
  try simp only [Act.put, List.setIfInBounds_toArray, List.set_cons_zero, List.set_cons_succ]
  refine wpAnyH_take (i := 41) (oi := ⟨_, _, _, _, _, _⟩) (v := ?_) rfl (by kernel_rfl) (by kernel_rfl) (by kernel_rfl) (fun _ _ _ h => h) (Or.inl ⟨by rfl, ?_⟩) hHS_1 ?_
  rotate_left
  · intro wS hSw; (try dsimp only at hSw); go_simp; try with_reducible rfl
  try simp only [Act.put, List.setIfInBounds_toArray, List.set_cons_zero, List.set_cons_succ]
  refine wpAnyH_ready (rs := [42]) (by kernel_rfl) (by simp) ?_
  refine AllReadyH.cons (o := ⟨_, _, _, _, _, _⟩) rfl (fun Kq hKq => ?_) AllReadyH.nil
  rw [if_pos (by rfl)]
  refine op_st hVS_1.out 1 rfl _ _ _ rfl rfl ((cS { s with ha := aH, hc := cH }).toArray) (rfl) (info_Sheet) (by rfl) (cS_one _) (fun _ hc => ?_)
  refine stepY hKq (show Sy w _ [(b, #[.string s.name, .int .i64 s.base, .int .i64 s.batter, .int .i64 s.height, .int .i64 s.skin, .slice s.ha s.hn s.hc, .int .i64 s.least, .int .i64 s.lap, .int .i64 s.run, .int .i64 s.every, .int .i64 s.at_, .int .i64 s.footing, .int .i64 s.spread, .int .u8 s.cope, .int .i64 s.tall, .int .i64 s.short, .int .i64 s.thick, .int .i64 s.low, .int .i64 s.high, .int .i64 s.rood], 53), (b2, (cS { s with ha := aH, hc := cH }).toArray, 92)] [⟨.slice aH (0 + s.hn) cH, 3, 1, 0 + s.hn, [] ++ L1 s.hs⟩] [] from hc) (fun _ hX => ⟨hX.cell 0 0 rfl rfl, hX.cell 0 1 rfl rfl, hX.cell 0 2 rfl rfl, hX.cell 0 3 rfl rfl, hX.cell 0 4 rfl rfl, hX.cell 0 5 rfl rfl, hX.cell 0 6 rfl rfl, hX.cell 0 7 rfl rfl, hX.cell 0 8 rfl rfl, hX.cell 0 9 rfl rfl, hX.cell 0 10 rfl rfl, hX.cell 0 11 rfl rfl, hX.cell 0 12 rfl rfl, hX.cell 0 13 rfl rfl, hX.cell 0 14 rfl rfl, hX.cell 0 15 rfl rfl, hX.cell 0 16 rfl rfl, hX.cell 0 17 rfl rfl, hX.cell 0 18 rfl rfl, hX.cell 0 19 rfl rfl, trivial⟩) ?_
  intro VS_2 hc2 hHS_2
  have hVS_2 := Lib.hid hc2
  clear hc2 hKq Kq hVS_1 hc hHS_1
  try simp only [Act.put]
  refine wpAnyH_done (by kernel_rfl) ?_ _
  go_wp2
  refine bodyPost_ret (results_cell_row Tryz.results32 _ _ b2 92 (cS { s with ha := aH, hc := cH }).toArray (0, 0) _ rfl (hVS_2.out.at_ 1 rfl).2 Tryz.underlying92 rfl info_Sheet) rfl ?_
  have hx := hVS_2.out.gives 0 rfl
  rw [Nat.zero_add, List.nil_append] at hx
  exact ⟨{ s with ha := aH, hc := cH }, rfl, rfl, hx, hVS_2.out.be⟩
end
end Go.Proofs.YtchignmnnbepnaaGreat

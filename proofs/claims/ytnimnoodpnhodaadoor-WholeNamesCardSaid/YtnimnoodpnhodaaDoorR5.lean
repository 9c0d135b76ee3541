/- ratios: Floor, Ceil, Text -/
import Derived.Test.YtnimnoodpnhodaaDoorR4
namespace Go.Proofs.YtnimnoodpnhodaaDoor
open Go.RowKit Dig

set_option maxRecDepth 100000 in
set_option maxHeartbeats 4000000 in
theorem rfloor_any (a1 : Option Addr) (n1 c1 : Nat) (m1 : Bool) (d1 : Option Addr) (e1 f1 : Nat) (q1 : Rat) (w : World) (h1 : Rd w (.slice a1 n1 c1) m1 (.slice d1 e1 f1) q1) (k1 : Nat) (b1 : Bq k1 q1) (hk1 : k1 ≤ 40000) :
    Calls Tryd.prog 19 #[.agg #[.slice a1 n1 c1, .bool m1, .slice d1 e1 f1]] w (RetZ w (q1.num / (q1.den : Int))) := by
  have B1 := Lib.hid b1
  clear b1
  have hC := Lib.hid ((((St.enter w).pr h1).al (w.heap.size) #[.slice a1 n1 c1, .bool m1, .slice d1 e1 f1] 32 rfl rfl).al (w.heap.size + 1) #[.slice none 0 0, .bool false] 27 (by simp) rfl)
  clear h1
  go_enter Tryd.func19, Tryd.ntmps19
  go_upto_region 1 with fail
  go_cut [3] (fun s3 wx => ∃ bx a4 n4 c4 m4, s3 = .pointer (some ⟨bx, 0, none⟩) ∧ Hid (St w wx [(w.heap.size, #[.slice a1 n1 c1, .bool m1, .slice d1 e1 f1], 32), (w.heap.size + 1, #[.slice none 0 0, .bool false], 27), (bx, #[.slice a4 n4 c4, .bool m4], 27)] [fun V => Zd V (.slice a4 n4 c4) m4 (q1.num / (q1.den : Int))]))
  case first =>
    refine wp_gen hC.out ?_
    intro W1 hc
    clear hC
    have hC := Lib.hid hc
    have HK1 := Lib.hid (show k1 ≤ 1000000 by omega)
    have HD := Lib.hid (den_ne q1)
    clear hc
    go_region_held3 (fun w' => w'.cell? ⟨w.heap.size, 0, none⟩ = some (.slice a1 n1 c1) ∧ w'.cell? ⟨w.heap.size, 1, none⟩ = some (.bool m1) ∧ w'.cell? ⟨w.heap.size, 2, none⟩ = some (.slice d1 e1 f1) ∧ True)
      (first
        | (with_reducible refine And.intro (?_ : World.cell? (World.setCell (World.setCell (World.setCell (World.setCell (World.alloc (World.alloc wb _) _) _ _) _ _) _ _) _ _) _ = _) ?_; exact ((((hCb.out.al (wb.heap.size) #[.slice none 0 0, .bool false] 27 rfl rfl).al (wb.heap.size + 1) #[.slice none 0 0, .bool false] 27 (by simp) rfl) |>.set 2 rfl |>.set 2 rfl) |>.set 3 rfl |>.set 3 rfl).cell 0 0 rfl rfl; exact ⟨((((hCb.out.al (wb.heap.size) #[.slice none 0 0, .bool false] 27 rfl rfl).al (wb.heap.size + 1) #[.slice none 0 0, .bool false] 27 (by simp) rfl) |>.set 2 rfl |>.set 2 rfl) |>.set 3 rfl |>.set 3 rfl).cell 0 1 rfl rfl, ((((hCb.out.al (wb.heap.size) #[.slice none 0 0, .bool false] 27 rfl rfl).al (wb.heap.size + 1) #[.slice none 0 0, .bool false] 27 (by simp) rfl) |>.set 2 rfl |>.set 2 rfl) |>.set 3 rfl |>.set 3 rfl).cell 0 2 rfl rfl, trivial⟩)
        | (with_reducible refine And.intro (?_ : World.cell? (World.setCell (World.setCell (World.setCell (World.setCell (World.alloc (World.alloc wb _) _) _ _) _ _) _ _) _ _) _ = _) ?_; exact ((((hCb.out.al (wb.heap.size) #[.slice none 0 0, .bool false] 27 rfl rfl).al (wb.heap.size + 1) #[.slice none 0 0, .bool false] 27 (by simp) rfl) |>.set 3 rfl |>.set 3 rfl) |>.set 2 rfl |>.set 2 rfl).cell 0 0 rfl rfl; exact ⟨((((hCb.out.al (wb.heap.size) #[.slice none 0 0, .bool false] 27 rfl rfl).al (wb.heap.size + 1) #[.slice none 0 0, .bool false] 27 (by simp) rfl) |>.set 3 rfl |>.set 3 rfl) |>.set 2 rfl |>.set 2 rfl).cell 0 1 rfl rfl, ((((hCb.out.al (wb.heap.size) #[.slice none 0 0, .bool false] 27 rfl rfl).al (wb.heap.size + 1) #[.slice none 0 0, .bool false] 27 (by simp) rfl) |>.set 3 rfl |>.set 3 rfl) |>.set 2 rfl |>.set 2 rfl).cell 0 2 rfl rfl, trivial⟩)
        | (with_reducible refine And.intro (?_ : World.cell? (World.setCell (World.setCell (World.setCell (World.setCell (World.alloc wb _) _ _) _ _) _ _) _ _) _ = _) ?_; exact (((hCb.out.al (wb.heap.size) #[.slice none 0 0, .bool false] 27 rfl rfl) |>.set 2 rfl |>.set 2 rfl) |>.set 3 rfl |>.set 3 rfl).cell 0 0 rfl rfl; exact ⟨(((hCb.out.al (wb.heap.size) #[.slice none 0 0, .bool false] 27 rfl rfl) |>.set 2 rfl |>.set 2 rfl) |>.set 3 rfl |>.set 3 rfl).cell 0 1 rfl rfl, (((hCb.out.al (wb.heap.size) #[.slice none 0 0, .bool false] 27 rfl rfl) |>.set 2 rfl |>.set 2 rfl) |>.set 3 rfl |>.set 3 rfl).cell 0 2 rfl rfl, trivial⟩)
        | (with_reducible refine And.intro (?_ : World.cell? (World.setCell (World.setCell (World.setCell (World.setCell (World.alloc wb _) _ _) _ _) _ _) _ _) _ = _) ?_; exact (((hCb.out.al (wb.heap.size) #[.slice none 0 0, .bool false] 27 rfl rfl) |>.set 3 rfl |>.set 3 rfl) |>.set 2 rfl |>.set 2 rfl).cell 0 0 rfl rfl; exact ⟨(((hCb.out.al (wb.heap.size) #[.slice none 0 0, .bool false] 27 rfl rfl) |>.set 3 rfl |>.set 3 rfl) |>.set 2 rfl |>.set 2 rfl).cell 0 1 rfl rfl, (((hCb.out.al (wb.heap.size) #[.slice none 0 0, .bool false] 27 rfl rfl) |>.set 3 rfl |>.set 3 rfl) |>.set 2 rfl |>.set 2 rfl).cell 0 2 rfl rfl, trivial⟩)
        | (with_reducible refine And.intro (?_ : World.cell? (World.alloc (World.setCell (World.setCell (World.alloc (World.alloc wb _) _) _ _) _ _) _) _ = _) ?_; exact (((hCb.out.al (wb.heap.size) #[.slice none 0 0, .bool false] 27 rfl rfl).al (wb.heap.size + 1) #[.slice none 0 0, .bool false] 27 (by simp) rfl) |>.set 2 rfl |>.set 2 rfl).row.cell 0 0 rfl rfl; exact ⟨(((hCb.out.al (wb.heap.size) #[.slice none 0 0, .bool false] 27 rfl rfl).al (wb.heap.size + 1) #[.slice none 0 0, .bool false] 27 (by simp) rfl) |>.set 2 rfl |>.set 2 rfl).row.cell 0 1 rfl rfl, (((hCb.out.al (wb.heap.size) #[.slice none 0 0, .bool false] 27 rfl rfl).al (wb.heap.size + 1) #[.slice none 0 0, .bool false] 27 (by simp) rfl) |>.set 2 rfl |>.set 2 rfl).row.cell 0 2 rfl rfl, trivial⟩)
        | (with_reducible refine And.intro (?_ : World.cell? (World.alloc (World.setCell (World.setCell (World.alloc (World.alloc wb _) _) _ _) _ _) _) _ = _) ?_; exact (((hCb.out.al (wb.heap.size) #[.slice none 0 0, .bool false] 27 rfl rfl).al (wb.heap.size + 1) #[.slice none 0 0, .bool false] 27 (by simp) rfl) |>.set 3 rfl |>.set 3 rfl).row.cell 0 0 rfl rfl; exact ⟨(((hCb.out.al (wb.heap.size) #[.slice none 0 0, .bool false] 27 rfl rfl).al (wb.heap.size + 1) #[.slice none 0 0, .bool false] 27 (by simp) rfl) |>.set 3 rfl |>.set 3 rfl).row.cell 0 1 rfl rfl, (((hCb.out.al (wb.heap.size) #[.slice none 0 0, .bool false] 27 rfl rfl).al (wb.heap.size + 1) #[.slice none 0 0, .bool false] 27 (by simp) rfl) |>.set 3 rfl |>.set 3 rfl).row.cell 0 2 rfl rfl, trivial⟩)
        | (with_reducible refine And.intro (?_ : World.cell? (World.setCell (World.setCell (World.setCell (World.setCell wb _ _) _ _) _ _) _ _) _ = _) ?_; exact ((hCb.out |>.set 2 rfl |>.set 2 rfl) |>.set 3 rfl |>.set 3 rfl).cell 0 0 rfl rfl; exact ⟨((hCb.out |>.set 2 rfl |>.set 2 rfl) |>.set 3 rfl |>.set 3 rfl).cell 0 1 rfl rfl, ((hCb.out |>.set 2 rfl |>.set 2 rfl) |>.set 3 rfl |>.set 3 rfl).cell 0 2 rfl rfl, trivial⟩)
        | (with_reducible refine And.intro (?_ : World.cell? (World.setCell (World.setCell (World.setCell (World.setCell wb _ _) _ _) _ _) _ _) _ = _) ?_; exact ((hCb.out |>.set 3 rfl |>.set 3 rfl) |>.set 2 rfl |>.set 2 rfl).cell 0 0 rfl rfl; exact ⟨((hCb.out |>.set 3 rfl |>.set 3 rfl) |>.set 2 rfl |>.set 2 rfl).cell 0 1 rfl rfl, ((hCb.out |>.set 3 rfl |>.set 3 rfl) |>.set 2 rfl |>.set 2 rfl).cell 0 2 rfl rfl, trivial⟩)
        | (with_reducible refine And.intro (?_ : World.cell? (World.alloc (World.setCell (World.setCell (World.alloc wb _) _ _) _ _) _) _ = _) ?_; exact ((hCb.out.al (wb.heap.size) #[.slice none 0 0, .bool false] 27 rfl rfl) |>.set 2 rfl |>.set 2 rfl).row.cell 0 0 rfl rfl; exact ⟨((hCb.out.al (wb.heap.size) #[.slice none 0 0, .bool false] 27 rfl rfl) |>.set 2 rfl |>.set 2 rfl).row.cell 0 1 rfl rfl, ((hCb.out.al (wb.heap.size) #[.slice none 0 0, .bool false] 27 rfl rfl) |>.set 2 rfl |>.set 2 rfl).row.cell 0 2 rfl rfl, trivial⟩)
        | (with_reducible refine And.intro (?_ : World.cell? (World.alloc (World.setCell (World.setCell (World.alloc wb _) _ _) _ _) _) _ = _) ?_; exact ((hCb.out.al (wb.heap.size) #[.slice none 0 0, .bool false] 27 rfl rfl) |>.set 3 rfl |>.set 3 rfl).row.cell 0 0 rfl rfl; exact ⟨((hCb.out.al (wb.heap.size) #[.slice none 0 0, .bool false] 27 rfl rfl) |>.set 3 rfl |>.set 3 rfl).row.cell 0 1 rfl rfl, ((hCb.out.al (wb.heap.size) #[.slice none 0 0, .bool false] 27 rfl rfl) |>.set 3 rfl |>.set 3 rfl).row.cell 0 2 rfl rfl, trivial⟩)
        | (with_reducible refine And.intro (?_ : World.cell? (World.setCell (World.setCell (World.alloc (World.alloc wb _) _) _ _) _ _) _ = _) ?_; exact (((hCb.out.al (wb.heap.size) #[.slice none 0 0, .bool false] 27 rfl rfl).al (wb.heap.size + 1) #[.slice none 0 0, .bool false] 27 (by simp) rfl) |>.set 2 rfl |>.set 2 rfl).cell 0 0 rfl rfl; exact ⟨(((hCb.out.al (wb.heap.size) #[.slice none 0 0, .bool false] 27 rfl rfl).al (wb.heap.size + 1) #[.slice none 0 0, .bool false] 27 (by simp) rfl) |>.set 2 rfl |>.set 2 rfl).cell 0 1 rfl rfl, (((hCb.out.al (wb.heap.size) #[.slice none 0 0, .bool false] 27 rfl rfl).al (wb.heap.size + 1) #[.slice none 0 0, .bool false] 27 (by simp) rfl) |>.set 2 rfl |>.set 2 rfl).cell 0 2 rfl rfl, trivial⟩)
        | (with_reducible refine And.intro (?_ : World.cell? (World.setCell (World.setCell (World.alloc (World.alloc wb _) _) _ _) _ _) _ = _) ?_; exact (((hCb.out.al (wb.heap.size) #[.slice none 0 0, .bool false] 27 rfl rfl).al (wb.heap.size + 1) #[.slice none 0 0, .bool false] 27 (by simp) rfl) |>.set 3 rfl |>.set 3 rfl).cell 0 0 rfl rfl; exact ⟨(((hCb.out.al (wb.heap.size) #[.slice none 0 0, .bool false] 27 rfl rfl).al (wb.heap.size + 1) #[.slice none 0 0, .bool false] 27 (by simp) rfl) |>.set 3 rfl |>.set 3 rfl).cell 0 1 rfl rfl, (((hCb.out.al (wb.heap.size) #[.slice none 0 0, .bool false] 27 rfl rfl).al (wb.heap.size + 1) #[.slice none 0 0, .bool false] 27 (by simp) rfl) |>.set 3 rfl |>.set 3 rfl).cell 0 2 rfl rfl, trivial⟩)
        | (with_reducible refine And.intro (?_ : World.cell? (World.alloc (World.setCell (World.setCell wb _ _) _ _) _) _ = _) ?_; exact (hCb.out |>.set 2 rfl |>.set 2 rfl).row.cell 0 0 rfl rfl; exact ⟨(hCb.out |>.set 2 rfl |>.set 2 rfl).row.cell 0 1 rfl rfl, (hCb.out |>.set 2 rfl |>.set 2 rfl).row.cell 0 2 rfl rfl, trivial⟩)
        | (with_reducible refine And.intro (?_ : World.cell? (World.alloc (World.setCell (World.setCell wb _ _) _ _) _) _ = _) ?_; exact (hCb.out |>.set 3 rfl |>.set 3 rfl).row.cell 0 0 rfl rfl; exact ⟨(hCb.out |>.set 3 rfl |>.set 3 rfl).row.cell 0 1 rfl rfl, (hCb.out |>.set 3 rfl |>.set 3 rfl).row.cell 0 2 rfl rfl, trivial⟩)
        | (with_reducible refine And.intro (?_ : World.cell? (World.setCell (World.setCell (World.alloc wb _) _ _) _ _) _ = _) ?_; exact ((hCb.out.al (wb.heap.size) #[.slice none 0 0, .bool false] 27 rfl rfl) |>.set 2 rfl |>.set 2 rfl).cell 0 0 rfl rfl; exact ⟨((hCb.out.al (wb.heap.size) #[.slice none 0 0, .bool false] 27 rfl rfl) |>.set 2 rfl |>.set 2 rfl).cell 0 1 rfl rfl, ((hCb.out.al (wb.heap.size) #[.slice none 0 0, .bool false] 27 rfl rfl) |>.set 2 rfl |>.set 2 rfl).cell 0 2 rfl rfl, trivial⟩)
        | (with_reducible refine And.intro (?_ : World.cell? (World.setCell (World.setCell (World.alloc wb _) _ _) _ _) _ = _) ?_; exact ((hCb.out.al (wb.heap.size) #[.slice none 0 0, .bool false] 27 rfl rfl) |>.set 3 rfl |>.set 3 rfl).cell 0 0 rfl rfl; exact ⟨((hCb.out.al (wb.heap.size) #[.slice none 0 0, .bool false] 27 rfl rfl) |>.set 3 rfl |>.set 3 rfl).cell 0 1 rfl rfl, ((hCb.out.al (wb.heap.size) #[.slice none 0 0, .bool false] 27 rfl rfl) |>.set 3 rfl |>.set 3 rfl).cell 0 2 rfl rfl, trivial⟩)
        | (with_reducible refine And.intro (?_ : World.cell? (World.setCell (World.setCell wb _ _) _ _) _ = _) ?_; exact (hCb.out |>.set 2 rfl |>.set 2 rfl).cell 0 0 rfl rfl; exact ⟨(hCb.out |>.set 2 rfl |>.set 2 rfl).cell 0 1 rfl rfl, (hCb.out |>.set 2 rfl |>.set 2 rfl).cell 0 2 rfl rfl, trivial⟩)
        | (with_reducible refine And.intro (?_ : World.cell? (World.setCell (World.setCell wb _ _) _ _) _ = _) ?_; exact (hCb.out |>.set 3 rfl |>.set 3 rfl).cell 0 0 rfl rfl; exact ⟨(hCb.out |>.set 3 rfl |>.set 3 rfl).cell 0 1 rfl rfl, (hCb.out |>.set 3 rfl |>.set 3 rfl).cell 0 2 rfl rfl, trivial⟩)
        | (with_reducible refine And.intro (?_ : World.cell? (World.alloc (World.alloc wb _) _) _ = _) ?_; exact ((hCb.out.al (wb.heap.size) #[.slice none 0 0, .bool false] 27 rfl rfl).al (wb.heap.size + 1) #[.slice none 0 0, .bool false] 27 (by simp) rfl).cell 0 0 rfl rfl; exact ⟨((hCb.out.al (wb.heap.size) #[.slice none 0 0, .bool false] 27 rfl rfl).al (wb.heap.size + 1) #[.slice none 0 0, .bool false] 27 (by simp) rfl).cell 0 1 rfl rfl, ((hCb.out.al (wb.heap.size) #[.slice none 0 0, .bool false] 27 rfl rfl).al (wb.heap.size + 1) #[.slice none 0 0, .bool false] 27 (by simp) rfl).cell 0 2 rfl rfl, trivial⟩)
        | (with_reducible refine And.intro (?_ : World.cell? (World.alloc wb _) _ = _) ?_; exact (hCb.out.al (wb.heap.size) #[.slice none 0 0, .bool false] 27 rfl rfl).cell 0 0 rfl rfl; exact ⟨(hCb.out.al (wb.heap.size) #[.slice none 0 0, .bool false] 27 rfl rfl).cell 0 1 rfl rfl, (hCb.out.al (wb.heap.size) #[.slice none 0 0, .bool false] 27 rfl rfl).cell 0 2 rfl rfl, trivial⟩)
        | (with_reducible refine And.intro (?_ : World.cell? wb _ = _) ?_; exact hCb.out.cell 0 0 rfl rfl; exact ⟨hCb.out.cell 0 1 rfl rfl, hCb.out.cell 0 2 rfl rfl, trivial⟩)
        | (with_reducible refine And.intro (?_ : World.cell? (World.alloc (World.alloc wa _) _) _ = _) ?_; exact ((hCa.out.al (wa.heap.size) #[.slice none 0 0, .bool false] 27 rfl rfl).al (wa.heap.size + 1) #[.slice none 0 0, .bool false] 27 (by simp) rfl).cell 0 0 rfl rfl; exact ⟨((hCa.out.al (wa.heap.size) #[.slice none 0 0, .bool false] 27 rfl rfl).al (wa.heap.size + 1) #[.slice none 0 0, .bool false] 27 (by simp) rfl).cell 0 1 rfl rfl, ((hCa.out.al (wa.heap.size) #[.slice none 0 0, .bool false] 27 rfl rfl).al (wa.heap.size + 1) #[.slice none 0 0, .bool false] 27 (by simp) rfl).cell 0 2 rfl rfl, trivial⟩)
        | (with_reducible refine And.intro (?_ : World.cell? (World.alloc wa _) _ = _) ?_; exact (hCa.out.al (wa.heap.size) #[.slice none 0 0, .bool false] 27 rfl rfl).cell 0 0 rfl rfl; exact ⟨(hCa.out.al (wa.heap.size) #[.slice none 0 0, .bool false] 27 rfl rfl).cell 0 1 rfl rfl, (hCa.out.al (wa.heap.size) #[.slice none 0 0, .bool false] 27 rfl rfl).cell 0 2 rfl rfl, trivial⟩)
        | (with_reducible refine And.intro (?_ : World.cell? wa _ = _) ?_; exact hCa.out.cell 0 0 rfl rfl; exact ⟨hCa.out.cell 0 1 rfl rfl, hCa.out.cell 0 2 rfl rfl, trivial⟩)
        | (with_reducible refine And.intro (?_ : World.cell? (World.drew (World.alloc (World.alloc W1 _) _)) _ = _) ?_; exact ((hC.out.al (W1.heap.size) #[.slice none 0 0, .bool false] 27 rfl rfl).al (W1.heap.size + 1) #[.slice none 0 0, .bool false] 27 (by simp) rfl).drew.cell 0 0 rfl rfl; exact ⟨((hC.out.al (W1.heap.size) #[.slice none 0 0, .bool false] 27 rfl rfl).al (W1.heap.size + 1) #[.slice none 0 0, .bool false] 27 (by simp) rfl).drew.cell 0 1 rfl rfl, ((hC.out.al (W1.heap.size) #[.slice none 0 0, .bool false] 27 rfl rfl).al (W1.heap.size + 1) #[.slice none 0 0, .bool false] 27 (by simp) rfl).drew.cell 0 2 rfl rfl, trivial⟩)
        | (with_reducible refine And.intro (?_ : World.cell? (World.drew (World.alloc W1 _)) _ = _) ?_; exact (hC.out.al (W1.heap.size) #[.slice none 0 0, .bool false] 27 rfl rfl).drew.cell 0 0 rfl rfl; exact ⟨(hC.out.al (W1.heap.size) #[.slice none 0 0, .bool false] 27 rfl rfl).drew.cell 0 1 rfl rfl, (hC.out.al (W1.heap.size) #[.slice none 0 0, .bool false] 27 rfl rfl).drew.cell 0 2 rfl rfl, trivial⟩)
        | (with_reducible refine And.intro (?_ : World.cell? (World.drew W1) _ = _) ?_; exact hC.out.drew.cell 0 0 rfl rfl; exact ⟨hC.out.drew.cell 0 1 rfl rfl, hC.out.drew.cell 0 2 rfl rfl, trivial⟩)
        | (with_reducible refine And.intro (?_ : World.cell? (World.alloc (World.alloc wb _) _) _ = _) ?_; exact hCb.out.row.row.cell 0 0 rfl rfl; exact ⟨hCb.out.row.row.cell 0 1 rfl rfl, hCb.out.row.row.cell 0 2 rfl rfl, trivial⟩)
        | (with_reducible refine And.intro (?_ : World.cell? (World.alloc wb _) _ = _) ?_; exact hCb.out.row.cell 0 0 rfl rfl; exact ⟨hCb.out.row.cell 0 1 rfl rfl, hCb.out.row.cell 0 2 rfl rfl, trivial⟩))
      (first
        | (have _t := hCa; go_at_call 12; (first | (have P := (hCa.out.r 0 rfl).z; have P2 := hCa.out.z 1 rfl; (with_reducible refine (quo_b P P2 HD.out B1.out.num B1.out.den HK1.out HK1.out).mono ?_); rintro e wb ⟨a4, n4, c4, m4, a5, n5, c5, m5, rfl, hz, hr, hb⟩; have hCb := Lib.hid ((hCa.out.call hb).pz hz); clear hz hb P P2 hr) | (have P := ((hCa.out.al (wa.heap.size) #[.slice none 0 0, .bool false] 27 rfl rfl).r 0 rfl).z; have P2 := (hCa.out.al (wa.heap.size) #[.slice none 0 0, .bool false] 27 rfl rfl).z 1 rfl; (with_reducible refine (quo_b P P2 HD.out B1.out.num B1.out.den HK1.out HK1.out).mono ?_); rintro e wb ⟨a4, n4, c4, m4, a5, n5, c5, m5, rfl, hz, hr, hb⟩; have hCb := Lib.hid (((hCa.out.al (wa.heap.size) #[.slice none 0 0, .bool false] 27 rfl rfl).call hb).pz hz); clear hz hb P P2 hr) | (have P := (((hCa.out.al (wa.heap.size) #[.slice none 0 0, .bool false] 27 rfl rfl).al (wa.heap.size + 1) #[.slice none 0 0, .bool false] 27 (by simp) rfl).r 0 rfl).z; have P2 := ((hCa.out.al (wa.heap.size) #[.slice none 0 0, .bool false] 27 rfl rfl).al (wa.heap.size + 1) #[.slice none 0 0, .bool false] 27 (by simp) rfl).z 1 rfl; (with_reducible refine (quo_b P P2 HD.out B1.out.num B1.out.den HK1.out HK1.out).mono ?_); rintro e wb ⟨a4, n4, c4, m4, a5, n5, c5, m5, rfl, hz, hr, hb⟩; have hCb := Lib.hid ((((hCa.out.al (wa.heap.size) #[.slice none 0 0, .bool false] 27 rfl rfl).al (wa.heap.size + 1) #[.slice none 0 0, .bool false] 27 (by simp) rfl).call hb).pz hz); clear hz hb P P2 hr)); (try have c20 := hCb.out.cell 2 0 rfl rfl); (try have c21 := hCb.out.cell 2 1 rfl rfl); (try have c30 := hCb.out.cell 3 0 rfl rfl); (try have c31 := hCb.out.cell 3 1 rfl rfl); (try have f20 := hCb.out.free 2 0 rfl); (try have f21 := hCb.out.free 2 1 rfl); (try have f30 := hCb.out.free 3 0 rfl); (try have f31 := hCb.out.free 3 1 rfl); (try have l2 := hCb.out.lt 2 rfl); (try have l3 := hCb.out.lt 3 rfl); (try have l23 := hCb.out.apart 2 3 rfl rfl (by omega)); (try have l32 := (hCb.out.apart 2 3 rfl rfl (by omega)).symm); clear _t hCa)
        | (have _t := hC; go_at_call 36; (first | (have P := (hC.out.drew).r 0 rfl; (with_reducible refine (bottom_b P B1.out HK1.out).mono ?_); rintro e wa ⟨a3, n3, c3, m3, rfl, hz, hb⟩; have hCa := Lib.hid ((hC.out.drew.call hb).pz hz); clear hz hb P) | (have P := ((hC.out.al (W1.heap.size) #[.slice none 0 0, .bool false] 27 rfl rfl).drew).r 0 rfl; (with_reducible refine (bottom_b P B1.out HK1.out).mono ?_); rintro e wa ⟨a3, n3, c3, m3, rfl, hz, hb⟩; have hCa := Lib.hid (((hC.out.al (W1.heap.size) #[.slice none 0 0, .bool false] 27 rfl rfl).drew.call hb).pz hz); clear hz hb P) | (have P := (((hC.out.al (W1.heap.size) #[.slice none 0 0, .bool false] 27 rfl rfl).al (W1.heap.size + 1) #[.slice none 0 0, .bool false] 27 (by simp) rfl).drew).r 0 rfl; (with_reducible refine (bottom_b P B1.out HK1.out).mono ?_); rintro e wa ⟨a3, n3, c3, m3, rfl, hz, hb⟩; have hCa := Lib.hid ((((hC.out.al (W1.heap.size) #[.slice none 0 0, .bool false] 27 rfl rfl).al (W1.heap.size + 1) #[.slice none 0 0, .bool false] 27 (by simp) rfl).drew.call hb).pz hz); clear hz hb P)); clear _t hC)
        | fail)
    all_goals (go_wp2_with fail; go_meet)
    all_goals (first
      | (refine ⟨_, a4, n4, c4, m4, rfl, ?_⟩; (with_reducible refine (?_ : Hid (St w (World.alloc (World.alloc wb _) _) _ _))); exact Lib.hid (St.pick (St.bpick ((hCb.out.al (wb.heap.size) #[.slice a4 n4 c4, .bool m4] 27 rfl rfl).al (wb.heap.size + 1) #[.slice a5 n5 c5, .bool m5] 27 (by simp) rfl) [0, 1, 2] (by decide) rfl) [2] rfl))
      | (refine ⟨_, a4, n4, c4, m4, rfl, ?_⟩; (with_reducible refine (?_ : Hid (St w (World.alloc (World.setCell (World.setCell wb _ _) _ _) _) _ _))); exact Lib.hid (St.pick (St.bpick ((hCb.out |>.set 2 rfl |>.set 2 rfl).al (wb.heap.size) #[.slice a5 n5 c5, .bool m5] 27 (by simp [World.setCell]) rfl) [0, 1, 2] (by decide) rfl) [2] rfl))
      | (refine ⟨_, a4, n4, c4, m4, rfl, ?_⟩; (with_reducible refine (?_ : Hid (St w (World.alloc (World.alloc wb _) _) _ _))); exact Lib.hid (St.pick (St.bpick ((hCb.out.al (wb.heap.size) #[.slice a5 n5 c5, .bool m5] 27 rfl rfl).al (wb.heap.size + 1) #[.slice a4 n4 c4, .bool m4] 27 (by simp) rfl) [0, 1, 3] (by decide) rfl) [2] rfl))
      | (refine ⟨_, a4, n4, c4, m4, rfl, ?_⟩; (with_reducible refine (?_ : Hid (St w (World.alloc (World.setCell (World.setCell wb _ _) _ _) _) _ _))); exact Lib.hid (St.pick (St.bpick ((hCb.out |>.set 2 rfl |>.set 2 rfl).al (wb.heap.size) #[.slice a4 n4 c4, .bool m4] 27 (by simp [World.setCell]) rfl) [0, 1, 3] (by decide) rfl) [2] rfl))
      | (refine ⟨_, a4, n4, c4, m4, rfl, ?_⟩; (with_reducible refine (?_ : Hid (St w (World.setCell (World.setCell (World.setCell (World.setCell wb _ _) _ _) _ _) _ _) _ _))); exact Lib.hid (St.pick (St.bpick ((hCb.out |>.set 2 rfl |>.set 2 rfl) |>.set 3 rfl |>.set 3 rfl) [0, 1, 2] (by decide) rfl) [2] rfl))
      | (refine ⟨_, a4, n4, c4, m4, rfl, ?_⟩; (with_reducible refine (?_ : Hid (St w (World.setCell (World.setCell (World.setCell (World.setCell wb _ _) _ _) _ _) _ _) _ _))); exact Lib.hid (St.pick (St.bpick ((hCb.out |>.set 3 rfl |>.set 3 rfl) |>.set 2 rfl |>.set 2 rfl) [0, 1, 3] (by decide) rfl) [2] rfl)))
  case rest =>
    obtain ⟨bx, a4, n4, c4, m4, rfl, hD⟩ := hcut
    clear hC
    have hD_c10 := hD.out.cell 1 0 rfl rfl
    have hD_f10 := hD.out.free 1 0 rfl
    have hD_c11 := hD.out.cell 1 1 rfl rfl
    have hD_f11 := hD.out.free 1 1 rfl
    have hD_c20 := hD.out.cell 2 0 rfl rfl
    have hD_f20 := hD.out.free 2 0 rfl
    have hD_c21 := hD.out.cell 2 1 rfl rfl
    have hD_f21 := hD.out.free 2 1 rfl
    go_wp2
    refine ret_st (hD.out |>.set 1 rfl |>.set 1 rfl) (v := .agg #[.slice a4 n4 c4, .bool m4]) (fun hF => ?_) rfl (fun hF => ⟨_, _, _, _, rfl, hF.z 0 rfl, hF.be⟩)
    · have e0 := hF.cell 1 0 rfl rfl
      have e1 := hF.cell 1 1 rfl rfl
      simp [results, Tryd.results19, go_sem, e0, e1]

section
variable {w : World} {a1 : Option Addr} {n1 c1 : Nat} {m1 : Bool} {d1 : Option Addr} {e1 f1 : Nat} {q1 : Rat} {k1 : Nat}
theorem rfloor_b (h1 : Rd w (.slice a1 n1 c1) m1 (.slice d1 e1 f1) q1) (b1 : Bq k1 q1) (hk1 : k1 ≤ 40000) :
    Calls Tryd.prog 19 #[.agg #[.slice a1 n1 c1, .bool m1, .slice d1 e1 f1]] w (RetZ w q1.floor) := by
  rw [← floor_eq]; exact rfloor_any _ _ _ _ _ _ _ _ _ h1 k1 b1 hk1
end

set_option maxRecDepth 100000 in
set_option maxHeartbeats 1000000 in
theorem rceil_any (a1 : Option Addr) (n1 c1 : Nat) (m1 : Bool) (d1 : Option Addr) (e1 f1 : Nat) (q1 : Rat) (w : World) (h1 : Rd w (.slice a1 n1 c1) m1 (.slice d1 e1 f1) q1) (k1 : Nat) (b1 : Bq k1 q1) (hk1 : k1 ≤ 40000) :
    Calls Tryd.prog 20 #[.agg #[.slice a1 n1 c1, .bool m1, .slice d1 e1 f1]] w (RetZ w (-((-q1).floor))) := by
  have B1 := Lib.hid b1
  clear b1
  have hC := Lib.hid ((((St.enter w).pr h1).al (w.heap.size) #[.slice a1 n1 c1, .bool m1, .slice d1 e1 f1] 32 rfl rfl).al (w.heap.size + 1) #[.slice none 0 0, .bool false] 27 (by simp) rfl)
  clear h1
  go_enter Tryd.func20, Tryd.ntmps20
  have hC_c00 := hC.out.cell 0 0 rfl rfl
  have hC_f00 := hC.out.free 0 0 rfl
  have hC_c01 := hC.out.cell 0 1 rfl rfl
  have hC_f01 := hC.out.free 0 1 rfl
  have hC_c02 := hC.out.cell 0 2 rfl rfl
  have hC_f02 := hC.out.free 0 2 rfl
  go_wp2_with fail
  refine (rneg_b (hC.out.r 0 rfl)).mono ?_
  rintro e w3 ⟨a3, n3, c3, m3, d3, e3, f3, rfl, hz, hb⟩
  have hC3 := Lib.hid ((hC.out.call hb).pr hz)
  clear hb hz
  clear hC
  go_wp2_with fail
  refine (rfloor_b (hC3.out.r 1 rfl) B1.out.neg (by omega)).mono ?_
  rintro e w4 ⟨a4, n4, c4, m4, rfl, hz, hb⟩
  have hC4 := Lib.hid ((hC3.out.call hb).pz hz)
  clear hb hz
  clear hC3
  go_wp2_with fail
  refine (neg_b (hC4.out.z 2 rfl)).mono ?_
  rintro e w5 ⟨a5, n5, c5, m5, rfl, hz, hb⟩
  have hC5 := Lib.hid ((hC4.out.call hb).pz hz)
  clear hb hz
  have hC5_c10 := hC5.out.cell 1 0 rfl rfl
  have hC5_f10 := hC5.out.free 1 0 rfl
  have hC5_c11 := hC5.out.cell 1 1 rfl rfl
  have hC5_f11 := hC5.out.free 1 1 rfl
  clear hC4
  go_wp2
  refine ret_st (hC5.out |>.set 1 rfl |>.set 1 rfl) (v := .agg #[.slice a5 n5 c5, .bool m5]) (fun hF => ?_) rfl (fun hF => ⟨_, _, _, _, rfl, hF.z 3 rfl, hF.be⟩)
  · have e0 := hF.cell 1 0 rfl rfl
    have e1 := hF.cell 1 1 rfl rfl
    simp [results, Tryd.results20, go_sem, e0, e1]

end Go.Proofs.YtnimnoodpnhodaaDoor

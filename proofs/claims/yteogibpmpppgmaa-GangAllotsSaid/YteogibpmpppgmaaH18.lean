/- Carry -/
import Derived.Test.YteogibpmpppgmaaH17
namespace Go.Proofs.Yteogibpmpppgmaa
open Go.RowKit Go.Shelf

theorem sum_rsum {α : Type} (f : α → Int) (d : α) (l : List α) : ∀ k, k ≤ l.length → sumBy f (l.take k) = rsum (fun i => f (l.getD i d)) k
  | 0, _ => by simp [sumBy, rsum, lsum_nil]
  | k + 1, h => by
    rw [sumBy_take f l k (by omega), sum_rsum f d l k (by omega)]
    show _ = rsum _ k + f (l.getD k d)
    rw [List.getD_eq_getElem?_getD, List.getElem?_eq_getElem (by omega)]
    rfl
theorem sum_rsum_all {α : Type} (f : α → Int) (d : α) (l : List α) : sumBy f l = rsum (fun i => f (l.getD i d)) l.length := by
  have := sum_rsum f d l l.length (Nat.le_refl _)
  rwa [List.take_length] at this
theorem enough_rsum {P : List I3} {N : List I2} (h : enoughB P N = true) : rsum (hB N) N.length ≤ rsum (hA P) P.length := by
  have := of_decide_eq_true h
  rw [sum_rsum_all (fun x : I2 => x.2) (0, 0), sum_rsum_all (fun x : I3 => x.2.1) (0, 0, 0)] at this
  exact this
theorem yardErr_zero {P : List I3} {N : List I2} (h : yardErr P N = 0) : YGood P N ∧ enoughB P N = true := by
  unfold yardErr at h
  cases hy : yardBad P N
  · rw [hy] at h
    cases he : enoughB P N
    · rw [he] at h; cases h
    · exact ⟨yard_good hy, rfl⟩
  · rw [hy] at h; cases h
def RetCarry (w : World) (P : List I3) (N : List I2) (e : Ending) (w' : World) : Prop := ∃ (X G T : List Int) (a : Option Addr) (c : Nat),
  YInv P.length N.length (hA P) (hB N) (costC P N) (XF X) (fun i => G.getD i 0) (fun k => T.getD k 0) ∧ (∀ k, k < N.length → T.getD k 0 = hB N k) ∧
  e = .returned (.tuple #[.slice a (loadsOf P.length N.length (XF X)).length c, .int .i64 (costN P.length N.length (costC P N) (XF X)), .int .i64 0]) ∧
  w'.ownsRow w.heap.size 86 3 (.slice a (loadsOf P.length N.length (XF X)).length c) (loadsOf P.length N.length (XF X)).length (L3 (loadsOf P.length N.length (XF X))) ∧ Below w.heap.size w w'
theorem yinv_small {P : List I3} {N : List I2} {X : Nat → Nat → Int} {G T : Nat → Int} (hG : YGood P N) (Y : YInv P.length N.length (hA P) (hB N) (costC P N) X G T) : ∀ i k, i < P.length → k < N.length → 0 ≤ X i k ∧ X i k ≤ 1000000 := fun i k hi hk => by
  have h1 := Y.x0 i k hi hk
  have h2 := Y.xle hi hk
  have h3 := (hG.2.2.1 _ (List.getElem_mem hi)).2.1
  rw [hA_at hi] at h2
  omega
section
variable (w : World)
set_option maxHeartbeats 1000000 in
theorem carry_bad (a a' : Option Addr) (n c n' c' : Nat) (P : List I3) (N : List I2) (hs : Sx 3 w a n c (L3 P)) (hs' : Sx 2 w a' n' c' (L2 N)) (he : yardErr P N ≠ 0) :
    Calls Try.prog 25 #[.slice a n c, .slice a' n' c'] w (Gives (.tuple #[.slice none 0 0, .int .i64 0, .int .i64 (yardErr P N)]) w) := by
  have HE := Lib.hid (yardError_any w a a' n c n' c' P N hs hs')
  generalize yardErr P N = er at *
  clear hs hs'
  have heb : (er == 0) = false := by simpa using he
  have heb2 : (er != 0) = true := by simpa using he
  go_enter Try.func25, Try.ntmps25
  go_wp2_with fail
  refine HE.out.mono ?_
  rintro e w1 ⟨rfl, hb⟩
  have hB := Lib.hid hb
  clear hb
  go_wp2
  go_ret3
  exact ⟨rfl, hB.out⟩
set_option maxHeartbeats 1000000 in
theorem carry_ok (a a' : Option Addr) (n c n' c' : Nat) (P : List I3) (N : List I2) (hs : Sx 3 w a n c (L3 P)) (hs' : Sx 2 w a' n' c' (L2 N)) (he : yardErr P N = 0) :
    Calls Try.prog 25 #[.slice a n c, .slice a' n' c'] w (RetCarry w P N) := by
  obtain ⟨hG, hE⟩ := yardErr_zero he
  obtain rfl := hs.n3
  obtain rfl := hs'.n2
  have HE := Lib.hid (yardError_any w a a' _ c _ c' P N hs hs')
  rw [he] at HE
  have HL := Lib.hid (fun V (hV : Below w.heap.size w V) => least_any V a a' c c' P N (hs.below hV) (hs'.below hV) hG (enough_rsum hE))
  have HG := Lib.hid hG
  clear hs hs' he hG hE
  go_enter Try.func25, Try.ntmps25
  go_wp2_with fail
  refine HE.out.mono ?_
  rintro e w1 ⟨rfl, hb⟩
  have hC := Lib.hid ((Sy.enter w).call hb)
  clear hb HE
  go_wp2_with fail
  refine (HL.out _ hC.out.be).mono ?_
  rintro e w2 ⟨y, g2, g3, X, G, T, rfl, hY, hI, hT, hb⟩
  have hD := Lib.hid (hC.out.call hb)
  have HI := Lib.hid (And.intro hI hT)
  have HLS := Lib.hid (list_any w2 y a a' (some ⟨g2, 0, none⟩) (some ⟨g3, 0, none⟩) c c' P.length N.length P N G T (XF X) hY HG.out (yinv_small HG.out hI))
  clear hb hY hI hT hC HL
  go_wp2_with fail
  refine HLS.out.mono ?_
  rintro e w3 ⟨a3, c3, rfl, hr, hb⟩
  have hF := Lib.hid (hD.out.adopt hb hr)
  clear hb hr hD HLS
  go_wp2
  go_ret3
  exact ⟨X, G, T, a3, c3, HI.out.1, HI.out.2, rfl, hF.out.gives 0 rfl, hF.out.be⟩
end
end Go.Proofs.Yteogibpmpppgmaa

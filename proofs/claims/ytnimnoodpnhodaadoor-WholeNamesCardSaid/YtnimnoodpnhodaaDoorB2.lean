/- the laws' own z, r and awake -/
import Derived.Test.YtnimnoodpnhodaaDoorR6
import Derived.Test.YtnimnoodpnhodaaDoorR7
import Derived.Test.YtnimnoodpnhodaaDoorV
import Derived.Test.YtnimnoodpnhodaaDoorFold
namespace Go.Proofs.YtnimnoodpnhodaaDoor
open Go.RowKit Dig

theorem ztext_pos {l : List UInt8} {n : Nat} (h : Dec.isDec l = true) (hv : Dec.val l = n) : Dec.ztext (n : Int) = l := by
  unfold Dec.ztext
  rw [if_neg (by omega), Int.natAbs_natCast, ← hv, Dec.dec_val h]
theorem ztext_neg {l : List UInt8} {n : Nat} (h : Dec.isDec l = true) (hv : Dec.val l = n) (hn : 0 < n) : Dec.ztext (-(n : Int)) = 45 :: l := by
  unfold Dec.ztext
  rw [if_pos (by omega), Int.natAbs_neg, Int.natAbs_natCast, ← hv, Dec.dec_val h]
theorem ba_of {B : ByteArray} {l : List UInt8} (h : l = B.data.toList) : (⟨l.toArray⟩ : ByteArray) = B := by subst h; rfl
section
variable {w : World} {a : Option Addr} {n c : Nat} {m : Bool} {z : Int} {k : Nat} {d : Option Addr} {e f : Nat} {q : Rat}
theorem ztext_is (h : Zd w (.slice a n c) m z) (hb : Bd k z) (hk : k ≤ 1000000) {B : ByteArray} (hB : Dec.ztext z = B.data.toList) :
    Calls Tryd.prog 15 #[.agg #[.slice a n c, .bool m]] w fun e w' => e = .returned (.string B) ∧ Below w.heap.size w w' := by
  have := ztext_any a n c m z w h k hb hk
  rw [ba_of hB] at this
  exact this
theorem rtext_is (h : Rd w (.slice a n c) m (.slice d e f) q) (hb : Bq k q) (hk : k ≤ 40000) {B : ByteArray} (hB : rtext q = B.data.toList) :
    Calls Tryd.prog 17 #[.agg #[.slice a n c, .bool m, .slice d e f]] w fun e w' => e = .returned (.string B) ∧ Below w.heap.size w w' := by
  have := rtext_b h hb hk
  rw [ba_of hB] at this
  exact this
end
theorem rparse_e {s : ByteArray} {w : World} {q : Rat} {k : Int} (hs : s.size ≤ 100000) (h : rparse s.data.toList = (q, k)) : Calls Tryd.prog 5 #[.string s] w (RetRE w q k) := by
  have := rparse_b s w hs
  rw [h] at this
  exact this
theorem zparse_e {s : ByteArray} {w : World} {z k : Int} (hs : s.size ≤ 100000) (h : zres s.data.toList = (z, k)) : Calls Tryd.prog 4 #[.string s] w (RetZE w z k) := by
  have := parseZ_any s w hs
  rw [h] at this
  exact this

set_option maxRecDepth 100000 in
set_option maxHeartbeats 1000000 in
theorem z_is {s : ByteArray} {w : World} {z : Int} {k : Int} (hs : s.size ≤ 100000) (h : zres s.data.toList = (z, k)) :
    Calls Tryd.prog 14 #[.string s] w (RetZ w z) := by
  have H := Lib.hid h
  clear h
  have hC := Lib.hid ((St.enter w).al w.heap.size #[.slice none 0 0, .bool false] 27 rfl rfl)
  go_enter Tryd.func14, Tryd.ntmps14
  go_wp2_with fail
  refine (zparse_e hs H.out).mono ?_
  rintro e w3 ⟨a3, n3, c3, m3, rfl, hz, hb⟩
  have hC3 := Lib.hid (((hC.out.call hb).pz hz).al w3.heap.size #[.slice a3 n3 c3, .bool m3] 27 rfl rfl)
  clear hC hz hb
  have hC3_c00 := hC3.out.cell 0 0 rfl rfl
  have hC3_f00 := hC3.out.free 0 0 rfl
  have hC3_c01 := hC3.out.cell 0 1 rfl rfl
  have hC3_f01 := hC3.out.free 0 1 rfl
  go_wp2
  refine ret_st (hC3.out |>.set 0 rfl |>.set 0 rfl) (v := .agg #[.slice a3 n3 c3, .bool m3]) (fun hF => ?_) rfl (fun hF => ⟨_, _, _, _, rfl, hF.z 0 rfl, hF.be⟩)
  · have e0 := hF.cell 0 0 rfl rfl
    have e1 := hF.cell 0 1 rfl rfl
    simp [results, Tryd.results14, go_sem, e0, e1]

set_option maxRecDepth 100000 in
set_option maxHeartbeats 1000000 in
theorem r_is {s : ByteArray} {w : World} {q : Rat} {k : Int} (hs : s.size ≤ 100000) (h : rparse s.data.toList = (q, k)) :
    Calls Tryd.prog 16 #[.string s] w (RetR w q) := by
  have H := Lib.hid h
  clear h
  have hC := Lib.hid ((St.enter w).al w.heap.size #[.slice none 0 0, .bool false, .slice none 0 0] 32 rfl rfl)
  go_enter Tryd.func16, Tryd.ntmps16
  go_wp2_with fail
  refine (rparse_e hs H.out).mono ?_
  rintro e w3 ⟨a3, n3, c3, m3, d3, e3, f3, rfl, hz, hb⟩
  have hC3 := Lib.hid (((hC.out.call hb).pr hz).al w3.heap.size #[.slice a3 n3 c3, .bool m3, .slice d3 e3 f3] 32 rfl rfl)
  clear hC hz hb
  have hC3_c00 := hC3.out.cell 0 0 rfl rfl
  have hC3_f00 := hC3.out.free 0 0 rfl
  have hC3_c01 := hC3.out.cell 0 1 rfl rfl
  have hC3_f01 := hC3.out.free 0 1 rfl
  have hC3_c02 := hC3.out.cell 0 2 rfl rfl
  have hC3_f02 := hC3.out.free 0 2 rfl
  go_wp2
  refine ret_st (hC3.out |>.set 0 rfl |>.set 0 rfl |>.set 0 rfl) (v := .agg #[.slice a3 n3 c3, .bool m3, .slice d3 e3 f3]) (fun hF => ?_) rfl (fun hF => ⟨_, _, _, _, _, _, _, rfl, hF.r 0 rfl, hF.be⟩)
  · have e0 := hF.cell 0 0 rfl rfl
    have e1 := hF.cell 0 1 rfl rfl
    have e2 := hF.cell 0 2 rfl rfl
    simp [results, Tryd.results16, go_sem, e0, e1, e2]

theorem p64 : rparse [54, 47, 52] = ((⟨3, 2, by decide, by decide⟩ : Rat), 0) := by kernel_rfl
theorem p12 : rparse [49, 47, 50] = ((⟨1, 2, by decide, by decide⟩ : Rat), 0) := by kernel_rfl
theorem p13 : rparse [49, 47, 51] = ((⟨1, 3, by decide, by decide⟩ : Rat), 0) := by kernel_rfl
theorem p16 : rparse [49, 47, 54] = ((⟨1, 6, by decide, by decide⟩ : Rat), 0) := by kernel_rfl
theorem s1 : foldQ (· + ·) [(⟨1, 2, by decide, by decide⟩ : Rat), (⟨1, 3, by decide, by decide⟩ : Rat), (⟨1, 6, by decide, by decide⟩ : Rat)] = (⟨1, 1, by decide, by decide⟩ : Rat) := by kernel_rfl
theorem t32 : rtext (⟨3, 2, by decide, by decide⟩ : Rat) = [51, 47, 50] := by
  unfold rtext
  rw [if_neg (by decide)]
  rw [show Dec.ztext (3 : Int) = [51] from ztext_pos (n := 3) (by decide) (by decide), show Dec.ztext (((⟨3, 2, by decide, by decide⟩ : Rat).den : Nat) : Int) = [50] from ztext_pos (n := 2) (by decide) (by decide)]
  rfl
theorem t1 : rtext (⟨1, 1, by decide, by decide⟩ : Rat) = [49] := by
  unfold rtext
  rw [if_pos (by decide)]
  exact ztext_pos (n := 1) (by decide) (by decide)
theorem bq {n k : Nat} {q : Rat} (h1 : q.num.natAbs < 2 ^ n) (h2 : q.den < 2 ^ n) (hn : n ≤ k) : Bq k q := Bq.mono ⟨h1, by unfold Bd; rw [Int.natAbs_natCast]; exact h2⟩ hn

theorem rowR3 {w W : World} {bs : List (Nat × Array Value × TypeId)} {rs : List (World → Prop)} (h : St w W bs rs) (i : Nat) {b : Nat} {s1 s1' s2 s2' s3 s3' : Value} {m1 m2 m3 : Bool} {t : TypeId} (hx : bs[i]? = some (b, #[s1, .bool m1, s1', s2, .bool m2, s2', s3, .bool m3, s3'], t)) {q1 q2 q3 : Rat} (h1 : Rd W s1 m1 s1' q1) (h2 : Rd W s2 m2 s2' q2) (h3 : Rd W s3 m3 s3' q3) : RowR W (.slice (some ⟨b, 0, none⟩) 3 3) [q1, q2, q3] :=
  ⟨_, _, rfl, fun k hk => by
    match k, hk with
    | 0, _ => exact ⟨b, _, _, _, rfl, h.lt i hx, h.cell i 0 hx rfl, h.cell i 1 hx rfl, h.cell i 2 hx rfl, h1⟩
    | 1, _ => exact ⟨b, _, _, _, rfl, h.lt i hx, h.cell i 3 hx rfl, h.cell i 4 hx rfl, h.cell i 5 hx rfl, h2⟩
    | 2, _ => exact ⟨b, _, _, _, rfl, h.lt i hx, h.cell i 6 hx rfl, h.cell i 7 hx rfl, h.cell i 8 hx rfl, h3⟩⟩

set_option maxRecDepth 100000 in
set_option maxHeartbeats 4000000 in
theorem awake_any (w : World) : Calls Tryd.prog 13 #[] w (fun e w' => e = .returned (.bool true) ∧ Below w.heap.size w w') := by
  have hC := Lib.hid (St.enter w)
  go_enter Tryd.func13, Tryd.ntmps13
  go_wp2_with fail
  refine (int_any (-7) (by omega) _).mono ?_
  rintro e w3 ⟨a3, n3, c3, m3, rfl, hz, hb⟩
  have hC3 := Lib.hid ((hC.out.call hb).pz hz)
  clear hb hz hC
  go_wp2_with fail
  refine (int_any 2 (by omega) _).mono ?_
  rintro e w4 ⟨a4, n4, c4, m4, rfl, hz, hb⟩
  have hC4 := Lib.hid ((hC3.out.call hb).pz hz)
  clear hb hz hC3
  go_wp2_with fail
  refine (quo_b (hC4.out.z 0 rfl) (hC4.out.z 1 rfl) (by omega) (Bd.i64 (k := -7) (by omega)) (Bd.i64 (k := 2) (by omega)) (by omega) (by omega)).mono ?_
  rintro e w5 ⟨a5, n5, c5, m5, a6, n6, c6, m6, rfl, hz, hz2, hb⟩
  have hz : Zd w5 (.slice a5 n5 c5) m5 (-4) := hz
  have hz2 : Zd w5 (.slice a6 n6 c6) m6 1 := hz2
  have hC5 := Lib.hid ((((hC4.out.call hb).pz hz).pz hz2 |>.al w5.heap.size #[.slice a5 n5 c5, .bool m5] 27 rfl rfl).al (w5.heap.size + 1) #[.slice a6 n6 c6, .bool m6] 27 (by simp) rfl)
  clear hz hz2 hb hC4
  go_wp2_with fail
  refine (rparse_e (s := ⟨#[54, 47, 52]⟩) (by decide) p64).mono ?_
  rintro e w7 ⟨a7, n7, c7, m7, d7, e7, f7, rfl, hz, hb⟩
  have hC7 := Lib.hid (((hC5.out.call hb).pr hz).al w7.heap.size #[.slice a7 n7 c7, .bool m7, .slice d7 e7 f7] 32 rfl rfl)
  clear hz hb hC5
  have hC7_c00 := hC7.out.cell 0 0 rfl rfl
  have hC7_f00 := hC7.out.free 0 0 rfl
  have hC7_c01 := hC7.out.cell 0 1 rfl rfl
  have hC7_f01 := hC7.out.free 0 1 rfl
  have hC7_c10 := hC7.out.cell 1 0 rfl rfl
  have hC7_f10 := hC7.out.free 1 0 rfl
  have hC7_c11 := hC7.out.cell 1 1 rfl rfl
  have hC7_f11 := hC7.out.free 1 1 rfl
  go_wp2_with fail
  refine (ztext_is (hC7.out.z 2 rfl) (Bd.i64 (k := -4) (by omega)) (by omega) (B := ⟨#[45, 52]⟩) (ztext_neg (n := 4) (by decide) (by decide) (by omega))).mono ?_
  rintro e w8 ⟨rfl, hb⟩
  have hC8 := Lib.hid ((hC7.out.call hb))
  clear hb hC7 hC7_c00 hC7_c01 hC7_c10 hC7_c11 hC7_f00 hC7_f01 hC7_f10 hC7_f11
  have hC8_c10 := hC8.out.cell 1 0 rfl rfl
  have hC8_f10 := hC8.out.free 1 0 rfl
  have hC8_c11 := hC8.out.cell 1 1 rfl rfl
  have hC8_f11 := hC8.out.free 1 1 rfl
  go_wp2_with fail
  refine (ztext_is (hC8.out.z 3 rfl) (Bd.i64 (k := 1) (by omega)) (by omega) (B := ⟨#[49]⟩) (ztext_pos (n := 1) (by decide) (by decide))).mono ?_
  rintro e w9 ⟨rfl, hb⟩
  have hC9 := Lib.hid ((hC8.out.call hb))
  clear hb hC8 hC8_c10 hC8_c11 hC8_f10 hC8_f11
  have hC9_c20 := hC9.out.cell 2 0 rfl rfl
  have hC9_f20 := hC9.out.free 2 0 rfl
  have hC9_c21 := hC9.out.cell 2 1 rfl rfl
  have hC9_f21 := hC9.out.free 2 1 rfl
  have hC9_c22 := hC9.out.cell 2 2 rfl rfl
  have hC9_f22 := hC9.out.free 2 2 rfl
  go_wp2_with fail
  refine (rtext_is (hC9.out.r 4 rfl) (bq (n := 2) (k := 2) (by decide) (by decide) (by omega)) (by omega) (B := ⟨#[51, 47, 50]⟩) t32).mono ?_
  rintro e w10 ⟨rfl, hb⟩
  have hC10 := Lib.hid ((hC9.out.call hb))
  clear hb hC9 hC9_c20 hC9_c21 hC9_c22 hC9_f20 hC9_f21 hC9_f22
  go_wp2_with fail
  refine (int_any (-12) (by omega) _).mono ?_
  rintro e w11 ⟨a11, n11, c11, m11, rfl, hz, hb⟩
  have hC11 := Lib.hid ((hC10.out.call hb).pz hz)
  clear hb hz hC10
  go_wp2_with fail
  refine (int_any 18 (by omega) _).mono ?_
  rintro e w12 ⟨a12, n12, c12, m12, rfl, hz, hb⟩
  have hC12 := Lib.hid ((hC11.out.call hb).pz hz)
  clear hb hz hC11
  go_wp2_with fail
  refine (gcd_b (hC12.out.z 5 rfl) (hC12.out.z 6 rfl) (Bd.i64 (k := -12) (by omega)) (Bd.i64 (k := 18) (by omega)) (by omega) (by omega)).mono ?_
  rintro e w13 ⟨a13, n13, c13, m13, rfl, hz, hb⟩
  have hC13 := Lib.hid ((hC12.out.call hb).pz hz)
  clear hb hz hC12
  go_wp2_with fail
  refine (ztext_is (z := 6) (hC13.out.z 7 rfl) (Bd.i64 (k := 6) (by omega)) (by omega) (B := ⟨#[54]⟩) (ztext_pos (n := 6) (by decide) (by decide))).mono ?_
  rintro e w14 ⟨rfl, hb⟩
  have hC14 := Lib.hid ((hC13.out.call hb))
  clear hb hC13
  go_wp2_with fail
  refine (r_is (s := ⟨#[49, 47, 50]⟩) (by decide) p12).mono ?_
  rintro e w15 ⟨a15, n15, c15, m15, d15, e15, f15, rfl, hz, hb⟩
  have hC15 := Lib.hid ((hC14.out.call hb).pr hz)
  clear hb hz hC14
  go_wp2_with fail
  refine (r_is (s := ⟨#[49, 47, 51]⟩) (by decide) p13).mono ?_
  rintro e w16 ⟨a16, n16, c16, m16, d16, e16, f16, rfl, hz, hb⟩
  have hC16 := Lib.hid ((hC15.out.call hb).pr hz)
  clear hb hz hC15
  go_wp2_with fail
  refine (r_is (s := ⟨#[49, 47, 54]⟩) (by decide) p16).mono ?_
  rintro e w17 ⟨a17, n17, c17, m17, d17, e17, f17, rfl, hz, hb⟩
  have hC17 := Lib.hid ((hC16.out.call hb).pr hz)
  clear hb hz hC16
  have hC18 := Lib.hid (hC17.out.al w17.heap.size #[.slice a15 n15 c15, .bool m15, .slice d15 e15 f15, .slice a16 n16 c16, .bool m16, .slice d16 e16 f16, .slice a17 n17 c17, .bool m17, .slice d17 e17 f17] 32 rfl rfl)
  clear hC17
  go_wp2_with fail
  refine (sum_any _ 3 [(⟨1, 2, by decide, by decide⟩ : Rat), (⟨1, 3, by decide, by decide⟩ : Rat), (⟨1, 6, by decide, by decide⟩ : Rat)] _ (rowR3 hC18.out 3 rfl (hC18.out.r 8 rfl) (hC18.out.r 9 rfl) (hC18.out.r 10 rfl)) 3 (fun q hq => by
    simp only [List.mem_cons, List.not_mem_nil, or_false] at hq
    rcases hq with rfl | rfl | rfl
    · exact bq (n := 3) (by decide) (by decide) (by omega)
    · exact bq (n := 3) (by decide) (by decide) (by omega)
    · exact bq (n := 3) (by decide) (by decide) (by omega)) (by omega) (by decide)).mono ?_
  rintro e w19 ⟨a19, n19, c19, m19, d19, e19, f19, rfl, hz, hb⟩
  rw [s1] at hz
  have hC19 := Lib.hid ((hC18.out.call hb).pr hz)
  clear hC18 hz hb
  go_wp2_with fail
  refine (rtext_is (hC19.out.r 11 rfl) (bq (n := 2) (k := 2) (by decide) (by decide) (by omega)) (by omega) (B := ⟨#[49]⟩) t1).mono ?_
  rintro e w20 ⟨rfl, hb⟩
  have hC20 := Lib.hid ((hC19.out.call hb))
  clear hb hC19
  go_wp2
  go_ret
  exact ⟨rfl, hC20.out.be⟩

end Go.Proofs.YtnimnoodpnhodaaDoor

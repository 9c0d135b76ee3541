/- plain: the text of a ratio read again -/
import Derived.Test.YtmfplelodnoicaaGreatDoorWK
import Derived.Test.YtmfplelodnoicaaGreatDoorWJ
namespace Go.Proofs.YtmfplelodnoicaaGreatDoor
open Go.RowKit Dig

theorem indexByte_out {c : UInt8} : ∀ {l : List UInt8}, (∀ x ∈ l, x ≠ c) → Lib.indexByte l c = -1
  | [], _ => rfl
  | b :: l, h => by
    have h1 : (b == c) = false := beq_eq_false_iff_ne.2 (h b (by simp))
    have h2 := indexByte_out (l := l) (fun x hx => h x (by simp [hx]))
    unfold Lib.indexByte
    rw [h1, h2]
    rfl
theorem indexByte_in {c : UInt8} {r : List UInt8} : ∀ {l : List UInt8}, (∀ x ∈ l, x ≠ c) → Lib.indexByte (l ++ c :: r) c = (l.length : Int)
  | [], _ => by
    show Lib.indexByte (c :: r) c = _
    unfold Lib.indexByte
    rw [show (c == c) = true from beq_self_eq_true c]
    rfl
  | b :: l, h => by
    have h1 : (b == c) = false := beq_eq_false_iff_ne.2 (h b (by simp))
    have h2 := indexByte_in (l := l) (r := r) (fun x hx => h x (by simp [hx]))
    rw [List.cons_append]
    unfold Lib.indexByte
    have h3 : (((l.length : Int)) == -1) = false := beq_eq_false_iff_ne.2 (by omega)
    rw [h1, h2, h3]
    simp
theorem ztext_no47 (z : Int) : ∀ x ∈ Dec.ztext z, x ≠ 47 := by
  intro x hx e
  subst e
  have hd : ∀ n : Nat, (47 : UInt8) ∉ Dec.dec n := fun n h => absurd (Dec.dec_dig n 47 h) (by decide)
  unfold Dec.ztext at hx
  split at hx
  · rcases List.mem_cons.1 hx with h | h
    · exact absurd h (by decide)
    · exact hd _ h
  · exact hd _ hx
theorem ztext_nat (n : Nat) : Dec.ztext (n : Int) = Dec.dec n := by
  unfold Dec.ztext
  rw [if_neg (by omega), Int.natAbs_natCast]
theorem rparse_rtext (q : Rat) (hl : (rtext q).length ≤ 1000) : rparse (rtext q) = (q, 0) := by
  unfold rparse
  rw [if_neg (by omega)]
  unfold rtext
  by_cases hd : q.den = 1
  · rw [if_pos hd, indexByte_out (ztext_no47 _), if_pos (by omega), Dec.zread_ztext]
    show ((q.num : Rat), (0 : Int)) = (q, 0)
    have : ((q.num : Int) : Rat) = q := by
      apply Rat.ext
      · rw [Rat.num_intCast]
      · rw [Rat.den_intCast, hd]
    rw [this]
  · have e : Dec.ztext q.num ++ [47] ++ Dec.ztext (q.den : Int) = Dec.ztext q.num ++ 47 :: Dec.dec q.den := by rw [ztext_nat, List.append_assoc]; rfl
    rw [if_neg hd, e, indexByte_in (ztext_no47 _), if_neg (by omega), Int.toNat_natCast, List.take_left', Dec.zread_ztext]
    · simp only []
      rw [show (Dec.ztext q.num ++ 47 :: Dec.dec q.den).drop ((Dec.ztext q.num).length + 1) = Dec.dec q.den from by rw [← List.drop_drop, List.drop_left]; rfl]
      rw [if_pos (Dec.isDec_dec _), Dec.val_dec, Rat.num_divInt_den]
      unfold ofzE
      rw [if_neg (by have := q.den_nz; omega)]
    · rfl
theorem rtext_inj {p q : Rat} (hp : (rtext p).length ≤ 1000) (h : rtext p = rtext q) : p = q := by
  have h1 := rparse_rtext p hp
  have h2 := rparse_rtext q (by rw [← h]; exact hp)
  rw [h, h2] at h1
  exact (Prod.mk.inj h1).1.symm
theorem ztext_len_m (m : Nat) {k : Nat} {z : Int} (h : Bd k z) (hk : k ≤ m) : (Dec.ztext z).length ≤ m + 2 := by
  have := dec_len_m m h hk
  unfold Dec.ztext
  split
  · rw [List.length_cons]; omega
  · omega
theorem rtext_len_m (m : Nat) {k : Nat} {q : Rat} (h : Bq k q) (hk : k ≤ m) : (rtext q).length ≤ 2 * m + 5 := by
  have h1 := ztext_len_m m h.num hk
  have h2 := ztext_len_m m h.den hk
  unfold rtext
  split
  · omega
  · rw [List.length_append, List.length_append]; simp only [List.length_singleton]; omega

end Go.Proofs.YtmfplelodnoicaaGreatDoor

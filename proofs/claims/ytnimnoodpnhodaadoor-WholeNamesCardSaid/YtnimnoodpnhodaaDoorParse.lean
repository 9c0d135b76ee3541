/- texts: isDigits, ParseZ, Text, Int64 -/
import Derived.Test.YtnimnoodpnhodaaDoorRead
import Derived.Test.YtnimnoodpnhodaaDoorText
import Derived.Test.YtnimnoodpnhodaaDoorZ4
import Derived.Test.YtnimnoodpnhodaaDoorNum
import Derived.Shelf.Strings.SlTrimAscii
namespace Go.Proofs.YtnimnoodpnhodaaDoor
open Go.RowKit Dig

def tens : List UInt8 := [48, 49, 50, 51, 52, 53, 54, 55, 56, 57]
theorem tens_dig (c : UInt8) : tens.contains c = Dec.isDig c := by
  rw [Bool.eq_iff_iff, List.contains_iff_mem]
  unfold Dec.isDig tens
  simp only [List.mem_cons, List.not_mem_nil, or_false, Bool.and_eq_true, decide_eq_true_eq, ← UInt8.toNat_inj]
  show (c.toNat = 48 ∨ c.toNat = 49 ∨ c.toNat = 50 ∨ c.toNat = 51 ∨ c.toNat = 52 ∨ c.toNat = 53 ∨ c.toNat = 54 ∨ c.toNat = 55 ∨ c.toNat = 56 ∨ c.toNat = 57) ↔ _
  omega
theorem dw_nil {α : Type} {p : α → Bool} {l : List α} : l.dropWhile p = [] ↔ ∀ x ∈ l, p x = true := by
  induction l with
  | nil => simp
  | cons a l ih =>
    rw [List.dropWhile_cons]
    by_cases h : p a = true
    · rw [if_pos h, ih]; simp [h]
    · rw [if_neg h]; simp [h]
theorem trim_nil (l : List UInt8) : Lib.trimS l tens = [] ↔ l.all Dec.isDig = true := by
  have e : (fun c : UInt8 => tens.contains c) = Dec.isDig := funext tens_dig
  unfold Lib.trimS Lib.trimLeftS Lib.trimRightS
  rw [e]
  constructor
  · intro h
    cases hx : l.reverse.dropWhile Dec.isDig with
    | nil =>
      rw [List.all_eq_true]
      intro c hc
      have : ∀ x ∈ l.reverse, Dec.isDig x = true := by
        intro x hxm
        have := dw_nil.1 hx
        exact this x hxm
      exact this c (by simpa using hc)
    | cons y r =>
      exfalso
      have hy : Dec.isDig y = false := by
        have := List.head_dropWhile_not (p := Dec.isDig) (w := by rw [hx]; simp) (l := l.reverse)
        simpa [hx] using this
      rw [hx] at h
      have := dw_nil.1 h y (by simp)
      rw [hy] at this
      exact Bool.noConfusion this
  · intro h
    have h1 : l.reverse.dropWhile Dec.isDig = [] := dw_nil.2 (fun x hx => List.all_eq_true.1 h x (by simpa using hx))
    rw [h1]; rfl
theorem trim_digits (s : ByteArray) (w : World) (hs : s.size ≤ 100000) :
    Calls Tryd.prog 54 #[.string s, .string ⟨#[48, 49, 50, 51, 52, 53, 54, 55, 56, 57]⟩] w fun e w' => e = .returned (.string ⟨(Lib.trimS s.data.toList tens).toArray⟩) ∧ Below w.heap.size w w' :=
  Any.strings_Trim_laid Tryd.lays160 (by kernel_rfl) s ⟨#[48, 49, 50, 51, 52, 53, 54, 55, 56, 57]⟩ w (by omega) (by decide) (ascii_of_all (by decide))

theorem empty_iff (s : ByteArray) : s.toList.isEmpty = s.data.toList.isEmpty := by rw [Lib.toList_data]

set_option maxRecDepth 100000 in
set_option maxHeartbeats 1000000 in
theorem isDigits_any (s : ByteArray) (w : World) (hs : s.size ≤ 100000) :
    Calls Tryd.prog 29 #[.string s] w fun e w' => e = .returned (.bool (Dec.isDec s.data.toList)) ∧ Below w.heap.size w w' := by
  by_cases h0 : s.data.toList = []
  · obtain rfl : s = ⟨#[]⟩ := by
      cases s; rename_i d; congr; exact Array.toList_inj.1 h0
    go_enter Tryd.func29, Tryd.ntmps29
    go_wp2
    go_ret
    exact ⟨rfl, Below.refl _ _⟩
  · have h1 : s.toList.isEmpty = false := by rw [empty_iff]; cases e : s.data.toList with | nil => exact absurd e h0 | cons => rfl
    have HE := Lib.hid (show s.data.toList.isEmpty = false from by rw [← empty_iff]; exact h1)
    have hsz : 0 < s.size := by
      have : 0 < s.data.toList.length := List.length_pos_iff.2 h0
      simpa using this
    have hsz' : (0 : Int) < (s.size : Int) := by omega
    clear h0
    by_cases hd : s.data.toList.all Dec.isDig = true
    · have HD := Lib.hid hd
      have HT := Lib.hid ((trim_nil _).2 hd)
      clear hd
      by_cases h1s : s.size = 1
      · have H1 := Lib.hid h1s
        have h1i : (((s.size : Nat) : Int) == 1) = true := by simp [h1s]
        clear h1s
        go_enter Tryd.func29, Tryd.ntmps29
        go_wp2_with fail
        refine (trim_digits s _ hs).mono ?_
        rintro e w' ⟨rfl, hb⟩
        rw [HT.out]
        go_wp2
        go_ret
        exact ⟨ret_bool (by unfold Dec.isDec; rw [HE.out, HD.out, show s.data.toList.length = 1 from by simpa using H1.out]; rfl), hb⟩
      · have h1i : (((s.size : Nat) : Int) == 1) = false := by simpa using fun e => h1s (by omega)
        have H1 := Lib.hid h1s
        have HH := Lib.hid (show s.data.toList.head? = some s[0] from by
          rw [ByteArray.getElem_eq_getElem_data, List.head?_eq_getElem?, List.getElem?_eq_getElem (by simpa using hsz)]; simp)
        clear h1s
        by_cases hc : s[0] = 48
        · have hci : (((s[0].toNat : Nat) : Int) != 48) = false := by rw [hc]; rfl
          have HC := Lib.hid hc
          clear hc
          go_enter Tryd.func29, Tryd.ntmps29
          go_wp2_with fail
          refine (trim_digits s _ hs).mono ?_
          rintro e w' ⟨rfl, hb⟩
          rw [HT.out]
          go_wp2
          go_ret
          exact ⟨ret_bool (by unfold Dec.isDec; rw [HE.out, HD.out, HH.out, HC.out, show (s.data.toList.length == 1) = false from by simpa using H1.out]; rfl), hb⟩
        · have hci : (((s[0].toNat : Nat) : Int) != 48) = true := by
            simp only [bne_iff_ne, ne_eq]
            intro e
            exact hc (UInt8.toNat_inj.1 (by show s[0].toNat = 48; omega))
          have HC := Lib.hid hc
          clear hc
          go_enter Tryd.func29, Tryd.ntmps29
          go_wp2_with fail
          refine (trim_digits s _ hs).mono ?_
          rintro e w' ⟨rfl, hb⟩
          rw [HT.out]
          go_wp2
          go_ret
          exact ⟨ret_bool (by unfold Dec.isDec; rw [HE.out, HD.out, HH.out]; have := HC.out; simp [this]), hb⟩
    · have HD := Lib.hid hd
      have ht := mt (trim_nil _).1 hd
      obtain ⟨T, hT⟩ : ∃ T : ByteArray, T = ⟨(Lib.trimS s.data.toList tens).toArray⟩ := ⟨_, rfl⟩
      have hTe : T.toList.isEmpty = false := by
        rw [hT, empty_iff]
        cases e : Lib.trimS s.data.toList tens with
        | nil => exact absurd e ht
        | cons => rfl
      have hTe' : (!T.toList.isEmpty) = true := by rw [hTe]; rfl
      have HT := Lib.hid hT
      clear hd ht hT
      go_enter Tryd.func29, Tryd.ntmps29
      go_wp2_with fail
      refine (trim_digits s _ hs).mono ?_
      rintro e w' ⟨rfl, hb⟩
      rw [← HT.out]
      go_wp2
      go_ret
      exact ⟨ret_bool (by unfold Dec.isDec; rw [HE.out, show s.data.toList.all Dec.isDig = false from by simpa using HD.out]; rfl), hb⟩

end Go.Proofs.YtnimnoodpnhodaaDoor

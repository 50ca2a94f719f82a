/- What a constant behind the others changes: nothing of what others tell; a numeral is a text. Plain laws. -/
import Derived.Test.YtkhigagkgpfpfaaDoorPoolLaws3
import Derived.Test.YtkhigagkgpfpfaaDoorPoolTells
import Derived.Lib.ItoaLen
set_option linter.unusedVariables false
set_option linter.unusedSimpArgs false
namespace Go.Proofs.YtkhigagkgpfpfaaDoor.Ext
open Go.RowKit Go.Lib Go.Proofs.YtkhigagkgpfpfaaDoorW.PrintWords Go.Proofs.YtkhigagkgpfpfaaDoorW.PrintLast Go.Proofs.YtkhigagkgpfpfaaDoorW.PrintMore Go.Proofs.YtkhigagkgpfpfaaDoor.PLeb

theorem digit_enc : ∀ k, k < 10 → encodeRune ((48 + k : Nat) : Int) = [UInt8.ofNat (48 + k)] := by decide
theorem us_digits (u : Nat) : ∃ cs, (∀ c ∈ cs, VR c) ∧ decDigits u = us cs := by
  induction u using Nat.strongRecOn with
  | ind u ih =>
    rw [decDigits]
    by_cases h : u < 10
    · rw [dif_pos h]
      exact ⟨[((48 + u : Nat) : Int)], fun c hc => by rw [List.mem_singleton] at hc; subst hc; exact .inl (by omega), by rw [us, us, List.append_nil, digit_enc u h]⟩
    · rw [dif_neg h]
      obtain ⟨cs, hcs, he⟩ := ih (u / 10) (by omega)
      refine ⟨cs ++ [((48 + u % 10 : Nat) : Int)], fun c hc => ?_, ?_⟩
      · rcases List.mem_append.1 hc with hc | hc
        · exact hcs c hc
        · rw [List.mem_singleton] at hc; subst hc; exact .inl (by omega)
      · rw [us_append, he, us, us, List.append_nil, digit_enc (u % 10) (by omega)]
theorem us_itoa (n : Int) : ∃ cs, (∀ c ∈ cs, VR c) ∧ itoa n = us cs := by
  unfold itoa
  split
  · obtain ⟨cs, hcs, he⟩ := us_digits n.natAbs
    refine ⟨45 :: cs, fun c hc => ?_, ?_⟩
    · rcases List.mem_cons.1 hc with hc | hc
      · subst hc; exact .inl (by omega)
      · exact hcs c hc
    · rw [us, he]; rfl
  · exact us_digits n.toNat
/-- the numeral, as a text -/
def numeral (n : Int) : ByteArray := ⟨(itoa n).toArray⟩
theorem numeral_ok (n : Int) : tOK (numeral n) = true := by
  obtain ⟨cs, hcs, he⟩ := us_itoa n
  unfold tOK
  rw [show (numeral n).data.toList = itoa n from rfl, he]
  exact valid_us cs hcs
theorem numeral_size (n : Int) (h0 : -9223372036854775808 ≤ n) (h1 : n ≤ 9223372036854775807) : (numeral n).size ≤ 21 := itoa_length_le n h0 h1
section
variable {l xs : List S35}
theorem rd_more {i : Int} (h0 : 0 ≤ i) (h1 : i < l.length) : rd_T35 (l ++ xs) i = rd_T35 l i := by
  unfold rd_T35
  rw [List.getD_eq_getElem?_getD, List.getD_eq_getElem?_getD, List.getElem?_append_left (by omega)]
theorem rd_zero_more (h1 : 0 < l.length) : rd_T35 (l ++ xs) 0 = rd_T35 l 0 := rd_more (by omega) (by omega)
theorem isB_more {i k : Int} (h1 : i < l.length) : isB (l ++ xs) i k = isB l i k := by
  unfold isB
  by_cases h0 : 0 < i
  · rw [rd_more (by omega) h1, decide_eq_true (show i < ((l ++ xs).length : Int) by rw [List.length_append]; omega), decide_eq_true h1]
  · rw [decide_eq_false h0]; rfl
theorem isB_keep {i k : Int} (h : isB l i k = true) : isB (l ++ xs) i k = true := by rw [isB_more (isB_pos h).2.1]; exact h
theorem fits_keep {c : S35} (h : fitsB l c = true) : fitsB (l ++ xs) c = true := by
  obtain ⟨k, t, n, a, b, d⟩ := c
  unfold fitsB at h ⊢
  simp only at h ⊢
  split
  · rename_i h1; rw [if_pos h1] at h; exact h
  · rename_i h1
    rw [if_neg h1] at h
    split
    · rename_i h2; rw [if_pos h2] at h; exact h
    · rename_i h2
      rw [if_neg h2] at h
      split
      · rename_i h3; rw [if_pos h3] at h; exact h
      · rename_i h3
        rw [if_neg h3] at h
        split
        · rename_i h4
          rw [if_pos h4] at h
          simp only [Bool.and_eq_true] at h ⊢
          exact ⟨isB_keep h.1, h.2⟩
        · rename_i h4
          rw [if_neg h4] at h
          split
          · rename_i h5
            rw [if_pos h5] at h
            simp only [Bool.and_eq_true] at h ⊢
            exact ⟨⟨isB_keep h.1.1, isB_keep h.1.2.1, isB_keep h.1.2.2⟩, h.2⟩
          · rename_i h5; rw [if_neg h5] at h; exact h
theorem textP_more {i : Int} (h1 : i < l.length) : textP (l ++ xs) i = textP l i := by
  unfold textP
  rw [isB_more h1]
  by_cases h : isB l i 1 = true
  · rw [if_pos h, if_pos h, rd_more (by have := (isB_pos h).1; omega) h1]
  · rw [if_neg h, if_neg h]
theorem rd_inl {j : Int} (h0 : 0 < j) (h1 : j < l.length) : rd_T35 l j ∈ l.drop 1 := by
  have hj : j.toNat < l.length := by omega
  have e : rd_T35 l j = l[j.toNat] := by unfold rd_T35; rw [List.getD_eq_getElem?_getD, List.getElem?_eq_getElem hj]; rfl
  rw [e]
  refine List.mem_of_getElem? (i := j.toNat - 1) ?_
  rw [List.getElem?_drop, show 1 + (j.toNat - 1) = j.toNat by omega, List.getElem?_eq_getElem hj]
theorem classP_more {i : Int} (hf : ∀ c ∈ l.drop 1, fitsB l c = true) (h1 : i < l.length) : classP (l ++ xs) i = classP l i := by
  unfold classP
  rw [isB_more h1]
  by_cases h : isB l i 4 = true
  · have hp := isB_pos h
    have hm := hf _ (rd_inl hp.1 hp.2.1)
    rw [if_pos h, if_pos h, rd_more (by omega) h1]
    obtain ⟨⟨k, t, n, a, b, d⟩, hx⟩ : ∃ x, rd_T35 l i = x := ⟨_, rfl⟩
    rw [hx] at hm hp ⊢
    have hk : k = 4 := hp.2.2
    subst hk
    unfold fitsB at hm
    rw [if_neg (show ¬ (4 : Int) = 1 by decide), if_neg (show ¬ (4 : Int) = 2 by decide), if_neg (show ¬ (4 : Int) = 3 by decide), if_pos (show (4 : Int) = 4 from rfl)] at hm
    exact textP_more (isB_pos (Bool.and_eq_true_iff.1 hm).1).2.1
  · rw [if_neg h, if_neg h]
end
/-- the two that come behind -/
def two35 (n : Int) : List S35 := [⟨1, numeral n, 0, 0, 0, 0⟩, ⟨3, E0, n, 0, 0, 0⟩]
theorem check_more {l : List S35} {n : Int} (h : checkL l = 0) (hm : l.length ≤ 4000) : checkL (l ++ two35 n) = 0 := by
  obtain ⟨hpos, -, hf, hz⟩ := checkL_ok h
  have hlen : (l ++ two35 n).length = l.length + 2 := by rw [List.length_append]; rfl
  have hok : okL (l ++ two35 n) = true := by
    unfold okL
    rw [decide_eq_true (by omega), rd_zero_more hpos, hz, Bool.true_and, Bool.true_and, List.all_eq_true]
    intro c hc
    rw [List.drop_append_of_le_length (by omega)] at hc
    rcases List.mem_append.1 hc with hc | hc
    · exact fits_keep (hf c hc)
    · rcases List.mem_cons.1 hc with rfl | hc
      · simp [fitsB, numeral_ok]
      · rw [List.mem_singleton] at hc
        subst hc
        simp [fitsB]
        kernel_rfl
  unfold checkL
  rw [if_neg (by omega), if_pos hok]
theorem num_more (l : List S35) (n : Int) : numP (l ++ two35 n) ((l.length : Int) + 1) 3 = (n, 0) := by
  have hr : rd_T35 (l ++ two35 n) ((l.length : Int) + 1) = ⟨3, E0, n, 0, 0, 0⟩ := by
    unfold rd_T35
    rw [show ((l.length : Int) + 1).toNat = l.length + 1 by omega, List.getD_eq_getElem?_getD, List.getElem?_append_right (by omega), show l.length + 1 - l.length = 1 by omega]
    rfl
  have hb : isB (l ++ two35 n) ((l.length : Int) + 1) 3 = true := by
    unfold isB
    rw [decide_eq_true (by omega), decide_eq_true (by rw [List.length_append]; show (l.length : Int) + 1 < ((l.length + 2 : Nat) : Int); omega), hr]; rfl
  unfold numP
  rw [if_pos ⟨.inr rfl, hb⟩, hr]
theorem tiny_more {l : List S35} {n : Int} (h0 : -9223372036854775808 ≤ n) (h1 : n ≤ 9223372036854775807) (h : Tiny l) : Tiny (l ++ two35 n) := by
  intro c hc
  rcases List.mem_append.1 hc with hc | hc
  · exact h c hc
  · rcases List.mem_cons.1 hc with rfl | hc
    · have := numeral_size n h0 h1
      show (numeral n).size ≤ 8388608
      omega
    · rw [List.mem_singleton] at hc
      subst hc
      show E0.size ≤ 8388608
      decide
end Go.Proofs.YtkhigagkgpfpfaaDoor.Ext

/- What the printed functions of package leb compute, told by 'ub', 'sb', 'val', 'sval' and 'Form' (plain rows of bytes). -/
import Derived.Test.YtkhigagkgpfpfaaDoorTextLen
import Derived.OpenShut
set_option linter.unusedVariables false
set_option linter.unusedSimpArgs false
namespace Go.Proofs.YtkhigagkgpfpfaaDoor.Ext
open Go.RowKit Go.Proofs.YtkhigagkgpfpfaaDoorW.PrintWords Go.Proofs.YtkhigagkgpfpfaaDoorW.PrintLast Go.Proofs.YtkhigagkgpfpfaaDoor.PLeb

theorem pow_le2 (a b : Nat) (h : a ≤ b) : (2 : Int) ^ a ≤ 2 ^ b := by
  have := Nat.pow_le_pow_right (n := 2) (by omega) h
  exact_mod_cast this
theorem pow_pos2 (a : Nat) : (0 : Int) < 2 ^ a := Int.pow_pos (by omega)
theorem pow7 (a : Nat) : (128 : Int) ^ a = 2 ^ (7 * a) := by
  rw [show (128 : Int) = 2 ^ 7 by rfl, ← Int.pow_mul]

/- U -/
theorem U_l0 (m : Nat) : ∀ (k : Nat) (n : Nat) (out : List Int), m < k → n < 128 ^ (m + 1) → out.length + m < 140737488355328 → leb_U.l0 k n out = some (out ++ ub n, 0) := by
  induction m with
  | zero =>
    intro k n out hk hn ho
    obtain ⟨k, rfl⟩ : ∃ q, k = q + 1 := ⟨k - 1, by omega⟩
    simp only [leb_U.l0]
    rw [if_neg (by omega), if_pos (by omega), ub, if_pos (by omega), show (n : Int) % 256 = n by omega]
  | succ m ih =>
    intro k n out hk hn ho
    obtain ⟨k, rfl⟩ : ∃ q, k = q + 1 := ⟨k - 1, by omega⟩
    simp only [leb_U.l0]
    by_cases h : n < 128
    · rw [if_neg (by omega), if_pos (by omega), ub, if_pos h, show (n : Int) % 256 = n by omega]
    · rw [if_pos (by omega), if_pos (by omega), u8_or_128 _ (by omega) (by omega), show (n : Int) / 128 = ((n / 128 : Nat) : Int) by omega,
        ih k (n / 128) _ (by omega) (by rw [Nat.pow_succ] at hn; omega) (by simp; omega), List.append_assoc]
      rw [ub.eq_1 n, if_neg h]
      congr 3
      simp only [List.cons_append, List.nil_append, List.cons.injEq, and_true]
      omega
theorem U_f (k : Nat) (n : Int) (hk : 10 ≤ k) (h0 : 0 ≤ n) (h1 : n ≤ 9007199254740991) : leb_U.f k n = some (ub n.toNat, 0) := by
  unfold leb_U.f
  obtain ⟨k, rfl⟩ : ∃ q, k = q + 1 := ⟨k - 1, by omega⟩
  rw [if_neg (by omega), decide_eq_false (by omega)]
  simp only [leb_U.j0]
  rw [if_neg (by simp)]
  have := U_l0 7 k n.toNat [] (by omega) (by omega) (by simp)
  rw [show ((n.toNat : Nat) : Int) = n by omega] at this
  rw [this]; rfl
theorem U_bad (k : Nat) (n : Int) (hk : 1 ≤ k) (h : n < 0 ∨ 9007199254740991 < n) : leb_U.f k n = some ([], 9) := by
  unfold leb_U.f
  obtain ⟨k, rfl⟩ : ∃ q, k = q + 1 := ⟨k - 1, by omega⟩
  by_cases h0 : n < 0
  · rw [if_pos h0]; simp only [leb_U.j0, if_true]
  · rw [if_neg h0, decide_eq_true (by omega)]; simp only [leb_U.j0, if_true]
/- S -/
theorem S_l0 (m : Nat) : ∀ (k : Nat) (n : Int) (out : List Int), m < k → -(64 * 128 ^ m) ≤ n → n < 64 * 128 ^ m → out.length + m < 140737488355328 → leb_S.l0 k n out = some (out ++ sb n) := by
  induction m with
  | zero =>
    intro k n out hk h0 h1 ho
    obtain ⟨k, rfl⟩ : ∃ q, k = q + 1 := ⟨k - 1, by omega⟩
    simp only [leb_S.l0]
    rw [if_neg (by omega), if_neg (by omega), if_pos (by omega), sb, if_pos (by omega), u8_not128 _ (by omega) (by omega), show n % 256 % 128 = n % 128 by omega]
  | succ m ih =>
    intro k n out hk h0 h1 ho
    obtain ⟨k, rfl⟩ : ∃ q, k = q + 1 := ⟨k - 1, by omega⟩
    simp only [leb_S.l0]
    by_cases h : -64 ≤ n ∧ n < 64
    · rw [if_neg (by omega), if_neg (by omega), if_pos (by omega), sb, if_pos h, u8_not128 _ (by omega) (by omega), show n % 256 % 128 = n % 128 by omega]
    · have e : leb_S.l0 k (n / 128) (out ++ [bits .or .u8 (n % 256) 128]) = some (out ++ sb n) := by
        rw [u8_or_128 _ (by omega) (by omega), ih k (n / 128) _ (by omega) (by rw [Int.pow_succ] at h0; omega) (by rw [Int.pow_succ] at h1; omega) (by simp; omega), List.append_assoc]
        rw [sb.eq_1 n, if_neg h]
        congr 2
        simp only [List.cons_append, List.nil_append, List.cons.injEq, and_true]
        omega
      by_cases h2 : n < -64
      · rw [if_pos h2, if_pos (by omega), e]
      · rw [if_neg h2, if_pos (by omega), if_pos (by omega), e]
theorem S_f (k : Nat) (n : Int) (hk : 10 ≤ k) (h0 : -9223372036854775808 ≤ n) (h1 : n ≤ 9223372036854775807) : leb_S.f k n = some (sb n) := by
  unfold leb_S.f
  rw [S_l0 9 k n [] (by omega) (by omega) (by omega) (by simp)]; rfl
theorem sb_len10 (n : Int) (h0 : -9223372036854775808 ≤ n) (h1 : n ≤ 9223372036854775807) : (sb n).length ≤ 10 := sb_len 9 n (by omega) (by omega)
theorem ub_len8 (n : Nat) (h1 : n ≤ 9007199254740991) : (ub n).length ≤ 8 := ub_len 7 n (by omega)
/- EqBytes -/
theorem Clone_f (l : List Int) (h : l.length ≤ Big47) : slices_Clone_byte_byte.f l = some l := by
  unfold slices_Clone_byte_byte.f
  rw [if_pos (by have : Big47 = 140737488355300 := rfl; omega)]
theorem Bring_f (a n : Int) (ha : -9223372036854775808 ≤ a ∧ a ≤ 9223372036854775807) (hn : 0 < n) (hm : n ≤ 9223372036854775807) : R0_Bring.f a n = some (a % n) := by
  unfold R0_Bring.f
  rw [if_neg (by omega), if_neg (by omega)]
  have h1 : Int.tmod a n < n := Int.tmod_lt_of_pos a (by omega)
  have h2 : -n < Int.tmod a n := by
    have := Int.tmod_lt_of_pos (-a) hn
    rw [Int.neg_tmod] at this; omega
  have h3 := Int.emod_nonneg a (show n ≠ 0 by omega)
  have h4 := Int.emod_lt_of_pos a hn
  have h5 : (Int.tmod a n - a % n) % n = 0 := by
    have e1 := Int.tmod_add_mul_tdiv a n
    have e2 := Int.emod_add_mul_ediv a n
    have : Int.tmod a n - a % n = n * (a / n - Int.tdiv a n) := by rw [Int.mul_sub]; omega
    rw [this]; exact Int.mul_emod_right _ _
  obtain ⟨q, hq⟩ := Int.dvd_of_emod_eq_zero h5
  have hq2 : q = 0 ∨ q = -1 := by
    have a1 : -2 * n < n * q := by omega
    have a2 : n * q < n := by omega
    have b1 : -2 < q := by
      rcases Int.lt_or_le (-2) q with h | h
      · exact h
      · have := Int.mul_le_mul_of_nonneg_left h (show (0 : Int) ≤ n by omega); omega
    have b2 : q < 1 := by
      rcases Int.lt_or_le q 1 with h | h
      · exact h
      · have := Int.mul_le_mul_of_nonneg_left h (show (0 : Int) ≤ n by omega); omega
    omega
  rcases hq2 with rfl | rfl
  · rw [if_neg (by omega)]; congr 1; omega
  · rw [if_pos (by omega), wrap64_id _ (by omega) (by omega)]; congr 1; omega

/- rows -/
theorem lastOf_getD {p : List Int} (h : Form p) : ∀ r, (p ++ r).getD (p.length - 1) 0 = lastOf p := by
  induction h with
  | one c h0 h1 => intro r; rfl
  | more c t h0 h1 h ih =>
    intro r
    have := h.pos
    rw [lastOf_cons c t h.ne, ← ih r, List.length_cons, show t.length + 1 - 1 = (t.length - 1) + 1 by omega, List.cons_append, List.getD_cons_succ]
def prevOf (p : List Int) : Int := p.getD (p.length - 2) 0
theorem prevOf_cons (c : Int) (t : List Int) (h : 2 ≤ t.length) : prevOf (c :: t) = prevOf t := by
  unfold prevOf
  rw [List.length_cons, show t.length + 1 - 2 = (t.length - 2) + 1 by omega, List.getD_cons_succ]
theorem Form.least_iff {p : List Int} (h : Form p) (h2 : 2 ≤ p.length) : Least p ↔ ¬ (lastOf p = 0 ∧ prevOf p % 128 < 64) ∧ ¬ (lastOf p = 127 ∧ 64 ≤ prevOf p % 128) := by
  induction h with
  | one c h0 h1 => simp at h2
  | more c t h0 h1 h ih =>
    cases h with
    | one d g0 g1 => simp [Least, lastOf, prevOf]
    | more d u g0 g1 g =>
      have hu := g.pos
      rw [least_cons _ _ (by simp; omega), lastOf_cons _ _ (by simp), prevOf_cons _ _ (by simp; omega)]
      exact ih (by simp; omega)
theorem least_one {p : List Int} (h : Form p) (h2 : p.length = 1) : Least p := by
  cases h with
  | one c h0 h1 => trivial
  | more c t h0 h1 h => have := h.pos; rw [List.length_cons] at h2; omega
theorem prevOf_append (p r : List Int) (h2 : 2 ≤ p.length) : (p ++ r).getD (p.length - 2) 0 = prevOf p := by
  unfold prevOf
  rw [List.getD_eq_getElem?_getD, List.getD_eq_getElem?_getD, List.getElem?_append_left (by omega)]
theorem row_f (l : List Int) (m : Nat) (hm : m ≤ 10) (hb : ∀ x ∈ l, 0 ≤ x ∧ x ≤ 255) : leb_row.f l (m : Int) = some (rowL l m 0 0) := by
  unfold leb_row.f
  rw [if_pos ⟨⟨by omega, by omega⟩, hb⟩, Int.toNat_natCast]
theorem row10 (l : List Int) (hb : ∀ x ∈ l, 0 ≤ x ∧ x ≤ 255) : leb_row.f l 10 = some (rowL l 10 0 0) := row_f l 10 (by omega) hb

/- TakeU -/
def takeU (l : List Int) : Int × List Int × Int :=
  if (rowL l 8 0 0).2.2 = 0 then
    if ((rowL l 8 0 0).2.1 > 1 ∧ l.getD ((rowL l 8 0 0).2.1 - 1).toNat 0 = 0) ∨ (rowL l 8 0 0).1 > 9007199254740991 then (0, [], 4)
    else ((rowL l 8 0 0).1, l.drop (rowL l 8 0 0).2.1.toNat, 0)
  else (0, [], (rowL l 8 0 0).2.2)
theorem row_size (l : List Int) (hb : ∀ x ∈ l, 0 ≤ x ∧ x ≤ 255) (m : Nat) (h : (rowL l m 0 0).2.2 = 0) : 1 ≤ (rowL l m 0 0).2.1 ∧ (rowL l m 0 0).2.1 ≤ l.length ∧ (rowL l m 0 0).2.1 ≤ m ∧ 0 ≤ (rowL l m 0 0).1 ∧ (rowL l m 0 0).1 < 18446744073709551616 := by
  rcases rowL_inv l hb m 0 0 with ⟨p, r, rfl, hf, hl, e⟩ | ⟨e, _⟩ | ⟨e, _⟩
  · rw [e]; have := hf.pos; simp only [List.length_append]; omega
  · rw [e] at h; cases h
  · rw [e] at h; cases h
theorem takeU_j0 (k : Nat) (l : List Int) (x s : Int) (b : Bool) (hm : l.length ≤ Big47) (hs : 0 ≤ s) (hs2 : s ≤ l.length) (hx0 : 0 ≤ x) :
    leb_TakeU.j0 (k + 1) l x s b = some (if b = true ∨ x > 9007199254740991 then (0, [], 4) else (x, l.drop s.toNat, 0)) := by
  simp only [leb_TakeU.j0]
  cases b with
  | true => simp
  | false =>
    rw [if_neg (by simp)]
    by_cases hx : x > 9007199254740991
    · rw [if_pos hx, if_pos (.inr hx)]
    · rw [if_neg hx, if_pos hs, if_pos hs2, Clone_f _ (by rw [List.length_drop]; omega), Option.bind_some, wrap64_id _ (by omega) (by omega), if_neg (by simp; omega)]
theorem TakeU_f (k : Nat) (l : List Int) (hk : 1 ≤ k) (hb : ∀ x ∈ l, 0 ≤ x ∧ x ≤ 255) (hm : l.length ≤ Big47) : leb_TakeU.f k l = some (takeU l) := by
  obtain ⟨k, rfl⟩ : ∃ q, k = q + 1 := ⟨k - 1, by omega⟩
  unfold leb_TakeU.f takeU
  have hB : Big47 = 140737488355300 := rfl
  rw [show (8 : Int) = ((8 : Nat) : Int) by rfl, row_f l 8 (by omega) hb, Option.bind_some]
  by_cases he : (rowL l 8 0 0).2.2 = 0
  · obtain ⟨h1, h2, h3, h4, h5⟩ := row_size l hb 8 he
    rw [if_pos he, if_pos he]
    by_cases hs : (rowL l 8 0 0).2.1 > 1
    · rw [if_pos hs, wrap64_id _ (by omega) (by omega), if_pos (by omega), if_pos (by omega), takeU_j0 k l _ _ _ hm (by omega) h2 h4]
      congr 1
      have : (rd l ((rowL l 8 0 0).2.1 - 1) == 0) = true ↔ l.getD ((rowL l 8 0 0).2.1 - 1).toNat 0 = 0 := by rw [beq_iff_eq]; rfl
      simp only [this, hs, true_and]
    · rw [if_neg hs, takeU_j0 k l _ _ _ hm (by omega) h2 h4]
      congr 1
      simp [hs]
  · rw [if_neg he, if_neg he]
theorem takeU_ok {p : List Int} (h : Form p) (r : List Int) (hl : p.length ≤ 8) (h2 : p.length = 1 ∨ lastOf p ≠ 0) (hv : val p ≤ 9007199254740991) : takeU (p ++ r) = (val p, r, 0) := by
  unfold takeU
  have e := rowL_form h r 8 0 0 hl
  have hp := h.pos
  have hn := h.val_nn
  rw [e]
  simp only [Int.zero_add, Nat.mul_zero, Int.pow_zero, Int.mul_one, Int.natCast_zero, if_true]
  rw [show val p % 18446744073709551616 = val p by omega, show ((p.length : Int) - 1).toNat = p.length - 1 by omega, lastOf_getD h, Int.toNat_natCast, List.drop_left]
  rw [if_neg]
  rintro (⟨g1, g2⟩ | g)
  · rcases h2 with h2 | h2
    · omega
    · exact h2 g2
  · omega
theorem takeU_inv (l : List Int) (hb : ∀ x ∈ l, 0 ≤ x ∧ x ≤ 255) : (∃ p r, l = p ++ r ∧ Form p ∧ p.length ≤ 8 ∧ (p.length = 1 ∨ lastOf p ≠ 0) ∧ val p ≤ 9007199254740991 ∧ takeU l = (val p, r, 0)) ∨ takeU l = (0, [], 4) ∨ takeU l = (0, [], 3) := by
  rcases rowL_inv l hb 8 0 0 with ⟨p, r, rfl, hf, hl, e⟩ | ⟨e, _⟩ | ⟨e, _⟩
  · by_cases hg : (p.length = 1 ∨ lastOf p ≠ 0) ∧ val p ≤ 9007199254740991
    · exact .inl ⟨p, r, rfl, hf, hl, hg.1, hg.2, takeU_ok hf r hl hg.1 hg.2⟩
    · refine .inr (.inl ?_)
      have hp := hf.pos
      have hn := hf.val_nn
      have hlt := hf.val_lt
      have h56 : val p < 72057594037927936 := by
        have : (128 : Int) ^ p.length ≤ 128 ^ 8 := by rw [pow7, pow7]; exact pow_le2 _ _ (by omega)
        omega
      unfold takeU
      rw [e]
      simp only [Int.zero_add, Nat.mul_zero, Int.pow_zero, Int.mul_one, Int.natCast_zero, if_true]
      rw [show val p % 18446744073709551616 = val p by omega, show ((p.length : Int) - 1).toNat = p.length - 1 by omega, lastOf_getD hf, if_pos]
      omega
  · exact .inr (.inl (by unfold takeU; rw [e]; rfl))
  · exact .inr (.inr (by unfold takeU; rw [e]; rfl))
theorem takeU_cut (l : List Int) (h1 : l.length < 8) (h2 : ∀ c ∈ l, 128 ≤ c) : takeU l = (0, [], 3) := by
  unfold takeU; rw [rowL_cut l 8 0 0 h1 h2]; rfl

/- TakeS -/
theorem takeS_j0 (k : Nat) (l : List Int) (x s last : Int) (neg : Bool) (hm : l.length ≤ Big47) (hs1 : 1 ≤ s) (hs2 : s ≤ l.length) (hs3 : s ≤ 10) :
    leb_TakeS.j0 (k + 1) l x s last neg = some (if (s > 1 ∧ (last = 0 ∧ bits .and .u8 (rd l (s - 2)) 64 = 0 ∨ last = 127 ∧ bits .and .u8 (rd l (s - 2)) 64 ≠ 0)) ∨ (s = 10 ∧ last ≠ 0 ∧ last ≠ 127) then (0, [], 4)
      else (wrap64 (if neg = true then bits .or .u64 x (shl .u64 18446744073709551615 (7 * s)) else x), l.drop s.toNat, 0)) := by
  simp only [leb_TakeS.j0]
  rw [Clone_f _ (by rw [List.length_drop]; omega), wrap64_id (7 * s) (by omega) (by omega), wrap64_id (s - 2) (by omega) (by omega)]
  simp only [Option.bind_some]
  have ew : wrap64 (if neg = true then bits .or .u64 x (shl .u64 18446744073709551615 (7 * s)) else x) = if neg = true then wrap64 (bits .or .u64 x (shl .u64 18446744073709551615 (7 * s))) else wrap64 x := by split <;> rfl
  rw [ew]
  generalize bits .and .u8 (rd l (s - 2)) 64 = z
  generalize wrap64 (bits .or .u64 x (shl .u64 18446744073709551615 (7 * s))) = v1
  have g1 : 0 ≤ 7 * s := by omega
  have g2 : 0 ≤ s := by omega
  by_cases h1 : s > 1
  · have g3 : 0 ≤ s - 2 := by omega
    have g4 : s - 2 < (l.length : Int) := by omega
    by_cases h2 : last = 0
    · by_cases h4 : z = 0 <;> by_cases h5 : s = 10 <;> cases neg <;> simp_all
    · by_cases h3 : last = 127 <;> by_cases h4 : z = 0 <;> by_cases h5 : s = 10 <;> cases neg <;> simp_all
  · have h5 : ¬ s = 10 := by omega
    have h6 : ¬ 1 < s := by omega
    cases neg <;> simp [h5, h6, g1, g2, hs2]
theorem val_split {p : List Int} (h : Form p) : ∃ low, 0 ≤ low ∧ low < 128 ^ (p.length - 1) ∧ val p = low + 128 ^ (p.length - 1) * lastOf p := by
  induction h with
  | one c h0 h1 => exact ⟨0, by simp, by simp, by simp [val, lastOf]; omega⟩
  | more c t h0 h1 h ih =>
    obtain ⟨low, a, b, e⟩ := ih
    have hp := h.pos
    refine ⟨c % 128 + 128 * low, by omega, ?_, ?_⟩
    · rw [List.length_cons, show t.length + 1 - 1 = (t.length - 1) + 1 by omega, Int.pow_succ]; omega
    · rw [lastOf_cons c t h.ne, List.length_cons, show t.length + 1 - 1 = (t.length - 1) + 1 by omega, Int.pow_succ]
      simp only [val]
      rw [e, Int.mul_add, Int.mul_comm (128 ^ (t.length - 1)) 128, Int.mul_assoc]; omega
def BadS (p : List Int) : Prop := ¬ Least p ∨ (p.length = 10 ∧ lastOf p ≠ 0 ∧ lastOf p ≠ 127)
noncomputable instance (p : List Int) : Decidable (BadS p) := Classical.propDecidable _
theorem TakeS_form (k : Nat) {p : List Int} (h : Form p) (r : List Int) (hk : 1 ≤ k) (hb : ∀ x ∈ p ++ r, 0 ≤ x ∧ x ≤ 255) (hm : (p ++ r).length ≤ Big47) (hl : p.length ≤ 10) :
    (BadS p → leb_TakeS.f k (p ++ r) = some (0, [], 4)) ∧ (¬ BadS p → leb_TakeS.f k (p ++ r) = some (sval p, r, 0)) := by
  obtain ⟨k, rfl⟩ : ∃ q, k = q + 1 := ⟨k - 1, by omega⟩
  have hp := h.pos
  have hB : Big47 = 140737488355300 := rfl
  have hla := h.last
  have e := rowL_form h r 10 0 0 hl
  simp only [Int.zero_add, Nat.mul_zero, Int.pow_zero, Int.mul_one, Int.natCast_zero] at e
  have elast : rd (p ++ r) ((p.length : Int) - 1) = lastOf p := by
    unfold rd; rw [show ((p.length : Int) - 1).toNat = p.length - 1 by omega, lastOf_getD h]
  have hlen : ((p ++ r).length : Int) = p.length + r.length := by rw [List.length_append]; omega
  have hd : (p ++ r).drop ((p.length : Int)).toNat = r := by rw [Int.toNat_natCast, List.drop_left]
  have ez : 1 < (p.length : Int) → bits .and .u8 (rd (p ++ r) ((p.length : Int) - 2)) 64 = if prevOf p % 128 < 64 then 0 else 64 := by
    intro h1
    have e1 : rd (p ++ r) ((p.length : Int) - 2) = prevOf p := by
      unfold rd; rw [show ((p.length : Int) - 2).toNat = p.length - 2 by omega, prevOf_append p r (by omega)]
    have hpv := rd_in hb ((p.length : Int) - 2)
    rw [e1] at hpv ⊢
    exact u8_and64 _ hpv.1 hpv.2
  have hbad : ((p.length : Int) > 1 ∧ (lastOf p = 0 ∧ bits .and .u8 (rd (p ++ r) ((p.length : Int) - 2)) 64 = 0 ∨ lastOf p = 127 ∧ bits .and .u8 (rd (p ++ r) ((p.length : Int) - 2)) 64 ≠ 0)) ∨ ((p.length : Int) = 10 ∧ lastOf p ≠ 0 ∧ lastOf p ≠ 127) ↔ BadS p := by
    unfold BadS
    by_cases h1 : 1 < (p.length : Int)
    · rw [ez h1, h.least_iff (by omega)]
      by_cases h2 : prevOf p % 128 < 64
      · rw [if_pos h2]; omega
      · rw [if_neg h2]; omega
    · have := least_one h (by omega)
      simp only [this, not_true, false_or]
      omega
  have hv0 := h.val_nn
  have hvl := h.val_lt
  rw [pow7] at hvl
  have hsv := h.sval_val
  rw [pow7] at hsv
  have hrow : leb_TakeS.f (k + 1) (p ++ r) = some (if BadS p then (0, [], 4) else (wrap64 (if (64 ≤ lastOf p ∧ (p.length : Int) < 10) then bits .or .u64 (val p % 18446744073709551616) (shl .u64 18446744073709551615 (7 * (p.length : Int))) else val p % 18446744073709551616), r, 0)) := by
    unfold leb_TakeS.f
    rw [row10 (p ++ r) hb, Option.bind_some, e]
    simp only [if_true]
    rw [wrap64_id _ (by omega) (by omega), if_pos (by omega), if_pos (by omega), elast, u8_and64 _ hla.1 (by omega), show lastOf p % 128 = lastOf p by omega]
    by_cases h6 : lastOf p < 64
    · rw [if_pos h6, if_pos rfl, takeS_j0 k _ _ _ _ _ hm (by omega) (by omega) (by omega), if_neg (show ¬ (64 ≤ lastOf p ∧ (p.length : Int) < 10) by omega), hd]
      congr 1
      simp only [hbad, Bool.false_eq_true, if_false]
    · rw [if_neg h6, if_neg (by omega), takeS_j0 k _ _ _ _ _ hm (by omega) (by omega) (by omega), hd]
      congr 1
      simp only [hbad, decide_eq_true_eq, show 64 ≤ lastOf p by omega, true_and]
  constructor
  · intro hbd; rw [hrow, if_pos hbd]
  · intro hbd
    rw [hrow, if_neg hbd]
    congr 2
    have hp63 : p.length ≤ 9 → (2 : Int) ^ (7 * p.length) ≤ 9223372036854775808 := fun h9 => pow_le2 (7 * p.length) 63 (by omega)
    have hpp := pow_pos2 (7 * p.length)
    by_cases h9 : p.length ≤ 9
    · have h63 := hp63 h9
      rw [show val p % 18446744073709551616 = val p by omega]
      by_cases h6 : lastOf p < 64
      · rw [if_neg (by omega), hsv, if_pos h6]
        exact wrap64_id _ (by omega) (by omega)
      · rw [if_pos (by omega), hsv, if_neg h6]
        have hj := (u64_join (7 * p.length) (val p) 18446744073709551615 (by omega) hv0 hvl (by omega)).1
        have hsh : shl .u64 18446744073709551615 (7 * (p.length : Int)) = 18446744073709551615 * 2 ^ (7 * p.length) % 18446744073709551616 := by
          unfold shl
          rw [show (7 * (p.length : Int)).toNat = 7 * p.length by omega, show IntKind.bits .u64 = 64 by rfl, Nat.min_eq_left (by omega)]
          rfl
        rw [hsh, hj]
        generalize (2 : Int) ^ (7 * p.length) = t at *
        unfold wrap64; omega
    · have h10 : p.length = 10 := by omega
      rw [if_neg (by omega)]
      obtain ⟨low, l0, l1, ev⟩ := val_split h
      have hn : lastOf p = 0 ∨ lastOf p = 127 := by
        unfold BadS at hbd
        by_cases g : lastOf p = 0
        · exact .inl g
        · refine .inr (Classical.byContradiction fun g2 => hbd (.inr ⟨h10, g, g2⟩))
      rw [h10] at ev l1
      rw [hsv, h10]
      have e9 : (128 : Int) ^ (10 - 1) = 9223372036854775808 := by decide
      have e10 : (2 : Int) ^ (7 * 10) = 1180591620717411303424 := by decide
      rw [e9] at ev l1
      rw [e10]
      rcases hn with hn | hn
      · rw [hn] at ev; rw [if_pos (by omega)]
        unfold wrap64; omega
      · rw [hn] at ev; rw [if_neg (by omega)]
        unfold wrap64; omega
theorem TakeS_ok (k : Nat) {p : List Int} (h : Form p) (r : List Int) (hk : 1 ≤ k) (hb : ∀ x ∈ p ++ r, 0 ≤ x ∧ x ≤ 255) (hm : (p ++ r).length ≤ Big47) (hl : p.length ≤ 10) (hbd : ¬ BadS p) : leb_TakeS.f k (p ++ r) = some (sval p, r, 0) :=
  (TakeS_form k h r hk hb hm hl).2 hbd
theorem TakeS_inv (k : Nat) (l : List Int) (hk : 1 ≤ k) (hb : ∀ x ∈ l, 0 ≤ x ∧ x ≤ 255) (hm : l.length ≤ Big47) :
    (∃ p r, l = p ++ r ∧ Form p ∧ p.length ≤ 10 ∧ ¬ BadS p ∧ leb_TakeS.f k l = some (sval p, r, 0)) ∨ leb_TakeS.f k l = some (0, [], 4) ∨ leb_TakeS.f k l = some (0, [], 3) := by
  rcases rowL_inv l hb 10 0 0 with ⟨p, r, rfl, hf, hl, e⟩ | ⟨e, _⟩ | ⟨e, _⟩
  · have := TakeS_form k hf r hk hb hm hl
    by_cases hbd : BadS p
    · exact .inr (.inl (this.1 hbd))
    · exact .inl ⟨p, r, rfl, hf, hl, hbd, this.2 hbd⟩
  · refine .inr (.inl ?_)
    unfold leb_TakeS.f
    rw [row10 l hb, Option.bind_some, e]; rfl
  · refine .inr (.inr ?_)
    unfold leb_TakeS.f
    rw [row10 l hb, Option.bind_some, e]; rfl
theorem TakeS_cut (k : Nat) (l : List Int) (hk : 1 ≤ k) (hb : ∀ x ∈ l, 0 ≤ x ∧ x ≤ 255) (h1 : l.length < 10) (h2 : ∀ c ∈ l, 128 ≤ c) : leb_TakeS.f k l = some (0, [], 3) := by
  unfold leb_TakeS.f
  rw [row10 l hb, Option.bind_some, rowL_cut l 10 0 0 h1 h2]; rfl
theorem sb_good (n : Int) (h0 : -9223372036854775808 ≤ n) (h1 : n ≤ 9223372036854775807) : ¬ BadS (sb n) := by
  unfold BadS
  rintro (h | ⟨h10, ha, hb⟩)
  · exact h (sb_least n)
  · obtain ⟨low, l0, l1, ev⟩ := val_split (sb_form n)
    have hs := (sb_form n).sval_val
    have hl := (sb_form n).last
    rw [sb_val, h10] at hs
    rw [h10] at ev l1
    have e9 : (128 : Int) ^ (10 - 1) = 9223372036854775808 := by decide
    have e10 : (128 : Int) ^ 10 = 1180591620717411303424 := by decide
    rw [e9] at ev l1
    rw [e10] at hs
    split at hs <;> omega
end Go.Proofs.YtkhigagkgpfpfaaDoor.Ext

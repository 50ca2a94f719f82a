/- Numbers of fixed width: what leb.Big, TakeBig and TakeBigS compute, and that the reference computes the same. -/
import Derived.Test.YtmfipofoeigleaaLebSpec
set_option linter.unusedVariables false
set_option linter.unusedSimpArgs false
namespace Go.Proofs.Ytmfipofoeigleaa.Ext
open Go.RowKit Go.Proofs.YtmfipofoeigleaaW.PrintWords Go.Proofs.YtmfipofoeigleaaW.PrintLast Go.Proofs.YtmfipofoeigleaaW.PrintMore Go.Proofs.Ytmfipofoeigleaa.PLeb

/- Horner -/
theorem hv_lt : ∀ (l : List Int) (n : Int), (∀ x ∈ l, 0 ≤ x ∧ x ≤ 255) → 0 ≤ n → ∀ m : Nat, m + l.length ≤ 8 → n < 2 ^ (8 * m) → 0 ≤ hv n l ∧ hv n l < 2 ^ (8 * (m + l.length)) ∧ hv n l = n * 2 ^ (8 * l.length) + hv 0 l := by
  intro l
  induction l with
  | nil => intro n hb hn m hm h; simp [hv]; exact ⟨hn, h⟩
  | cons c t ih =>
    intro n hb hn m hm h
    have hc := hb c (by simp)
    have hb' : ∀ x ∈ t, 0 ≤ x ∧ x ≤ 255 := fun x hx => hb x (by simp [hx])
    rw [List.length_cons] at hm
    have hp : (2 : Int) ^ (8 * (m + 1)) ≤ 18446744073709551616 := pow_le2 (8 * (m + 1)) 64 (by omega)
    have he : (2 : Int) ^ (8 * (m + 1)) = 2 ^ (8 * m) * 256 := by rw [show 8 * (m + 1) = 8 * m + 8 by omega, Int.pow_add]; rfl
    have h2 : (n * 256 + c) % 18446744073709551616 = n * 256 + c := Int.emod_eq_of_lt (by omega) (by omega)
    simp only [hv]
    rw [h2, show ((0 : Int) * 256 + c) % 18446744073709551616 = c by omega]
    obtain ⟨a1, a2, a3⟩ := ih (n * 256 + c) hb' (by omega) (m + 1) (by omega) (by omega)
    obtain ⟨_, _, b3⟩ := ih c hb' (by omega) 1 (by omega) (by omega)
    refine ⟨a1, by rw [List.length_cons, show m + (t.length + 1) = m + 1 + t.length by omega]; exact a2, ?_⟩
    rw [a3, b3, List.length_cons, show 8 * (t.length + 1) = 8 + 8 * t.length by omega, Int.pow_add, Int.add_mul, Int.mul_assoc, show (2 : Int) ^ 8 = 256 by rfl, Int.add_assoc]
theorem hv_snoc (c : Int) : ∀ (l : List Int) (n : Int), hv n (l ++ [c]) = (hv n l * 256 + c) % 18446744073709551616
  | [], n => rfl
  | x :: l, n => by simp only [List.cons_append, hv]; exact hv_snoc c l _
theorem bigL_succ (n : Int) (s : Nat) : bigL n (s + 1) = bigL (n / 256) s ++ [n % 256] := by
  unfold bigL
  rw [List.range_succ, List.map_append, List.map_cons, List.map_nil]
  congr 1
  · apply List.map_congr_left
    intro j hj
    rw [List.mem_range] at hj
    rw [show 8 * (s + 1 - 1 - j) = 8 + 8 * (s - 1 - j) by omega, Int.pow_add, show (2 : Int) ^ 8 = 256 by rfl, Int.ediv_ediv_of_nonneg (by omega)]
  · rw [show s + 1 - 1 - s = 0 by omega]; simp
theorem emod_split (n t : Int) (ht : 0 < t) : n / 256 % t * 256 + n % 256 = n % (256 * t) := by
  have h1 := Int.emod_nonneg (n / 256) (show t ≠ 0 by omega)
  have h2 := Int.emod_lt_of_pos (n / 256) ht
  have h3 := Int.emod_add_mul_ediv (n / 256) t
  have e : n = (n / 256 % t * 256 + n % 256) + (256 * t) * (n / 256 / t) := by
    have : (256 * t) * (n / 256 / t) = 256 * (t * (n / 256 / t)) := Int.mul_assoc _ _ _
    omega
  rw [e, Int.add_mul_emod_self_left, ← e]
  exact (Int.emod_eq_of_lt (by omega) (by omega)).symm
theorem hv_bigL (s : Nat) : ∀ n : Int, s ≤ 8 → hv 0 (bigL n s) = n % 2 ^ (8 * s) := by
  induction s with
  | zero => intro n _; simp [bigL, hv]
  | succ s ih =>
    intro n h
    have hp := pow_pos2 (8 * s)
    have hq : (2 : Int) ^ (8 * (s + 1)) ≤ 18446744073709551616 := pow_le2 (8 * (s + 1)) 64 (by omega)
    have he : (2 : Int) ^ (8 * (s + 1)) = 256 * 2 ^ (8 * s) := by rw [show 8 * (s + 1) = 8 + 8 * s by omega, Int.pow_add]; rfl
    rw [bigL_succ, hv_snoc, ih _ (by omega), emod_split _ _ hp, ← he]
    have h1 := Int.emod_nonneg n (show (2 : Int) ^ (8 * (s + 1)) ≠ 0 by omega)
    have h2 := Int.emod_lt_of_pos n (show (0 : Int) < 2 ^ (8 * (s + 1)) by omega)
    exact Int.emod_eq_of_lt h1 (by omega)
theorem bigL_len (n : Int) (s : Nat) : (bigL n s).length = s := by simp [bigL]
theorem bigL_bytes (n : Int) (s : Nat) : ∀ x ∈ bigL n s, 0 ≤ x ∧ x ≤ 255 := by
  intro x hx
  simp only [bigL, List.mem_map] at hx
  obtain ⟨j, _, rfl⟩ := hx
  omega
theorem hv_head (c : Int) (t : List Int) (hb : ∀ x ∈ c :: t, 0 ≤ x ∧ x ≤ 255) (hl : t.length ≤ 7) : hv 0 (c :: t) = c * 2 ^ (8 * t.length) + hv 0 t ∧ 0 ≤ hv 0 t ∧ hv 0 t < 2 ^ (8 * t.length) := by
  have hb' : ∀ x ∈ t, 0 ≤ x ∧ x ≤ 255 := fun x hx => hb x (by simp [hx])
  have hc := hb c (by simp)
  obtain ⟨_, _, a⟩ := hv_lt t c hb' hc.1 1 (by omega) (by omega)
  obtain ⟨b0, b1, _⟩ := hv_lt t 0 hb' (by omega) 0 (by omega) (by omega)
  simp only [hv]
  rw [show ((0 : Int) * 256 + c) % 18446744073709551616 = c by omega]
  exact ⟨a, b0, by simpa using b1⟩
/-- with its sign -/
def sgn (s : Nat) (x : Int) : Int := if 2 ^ (8 * s) ≤ 2 * x then x - 2 ^ (8 * s) else x
theorem sgn_shift (s : Nat) (x : Int) (h1 : 1 ≤ s) (h8 : s ≤ 8) (h0 : 0 ≤ x) (hx : x < 2 ^ (8 * s)) : shr .i64 (wrap64 (shl .u64 x (8 * (8 - (s : Int))))) (8 * (8 - (s : Int))) = sgn s x := by
  have e : ∀ k y, shl .u64 k y = k * 2 ^ min y.toNat 64 % 18446744073709551616 := fun k y => rfl
  have e2 : ∀ k y, shr .i64 k y = k / 2 ^ min y.toNat 64 := fun k y => rfl
  rw [e, e2]
  unfold sgn wrap64
  rcases (show s = 1 ∨ s = 2 ∨ s = 3 ∨ s = 4 ∨ s = 5 ∨ s = 6 ∨ s = 7 ∨ s = 8 by omega) with rfl | rfl | rfl | rfl | rfl | rfl | rfl | rfl <;>
    simp only [Nat.reduceMul, Int.reducePow] at hx ⊢ <;> split
  all_goals first | (simp; omega) | omega
theorem sgn_big (s : Nat) (n : Int) (h1 : 1 ≤ s) (h8 : s ≤ 8) (h : -(2 ^ (8 * s - 1)) ≤ n ∧ n < 2 ^ (8 * s)) : (sgn s (n % 2 ^ (8 * s)) = n) ∨ (sgn s (n % 2 ^ (8 * s)) < 0 ∧ 0 ≤ n) := by
  unfold sgn
  rcases (show s = 1 ∨ s = 2 ∨ s = 3 ∨ s = 4 ∨ s = 5 ∨ s = 6 ∨ s = 7 ∨ s = 8 by omega) with rfl | rfl | rfl | rfl | rfl | rfl | rfl | rfl <;>
    simp only [Nat.reduceMul, Nat.reduceSub, Int.reducePow] at h ⊢ <;> split <;> omega

def takeBig (l : List Int) (s : Int) : Int × List Int × Int :=
  if s < 1 ∨ 7 < s then (0, [], 2) else if (l.length : Int) < s then (0, [], 3) else (hv 0 (l.take s.toNat), l.drop s.toNat, 0)
def takeBigS (l : List Int) (s : Int) : Int × List Int × Int :=
  if s < 1 ∨ 8 < s then (0, [], 2) else if (l.length : Int) < s then (0, [], 3) else (sgn s.toNat (hv 0 (l.take s.toNat)), l.drop s.toNat, 0)
theorem hv_take (l : List Int) (hb : ∀ x ∈ l, 0 ≤ x ∧ x ≤ 255) (s : Nat) (h8 : s ≤ 8) (hl : s ≤ l.length) : 0 ≤ hv 0 (l.take s) ∧ hv 0 (l.take s) < 2 ^ (8 * s) := by
  have hlen : (l.take s).length = s := by rw [List.length_take]; omega
  obtain ⟨a, b, _⟩ := hv_lt (l.take s) 0 (fun x hx => hb x (List.mem_of_mem_take hx)) (by omega) 0 (by omega) (by simp)
  rw [hlen, Nat.zero_add] at b
  exact ⟨a, b⟩
theorem TakeBig_f (l : List Int) (s : Int) (hb : ∀ x ∈ l, 0 ≤ x ∧ x ≤ 255) (hm : l.length < 140737488355328) : leb_TakeBig.f l s = some (takeBig l s) := by
  unfold leb_TakeBig.f leb_take.f
  rw [if_pos ⟨hm, hb⟩, Option.bind_some]
  unfold takeF takeBig
  by_cases h1 : s < 1 ∨ 7 < s
  · simp only [if_pos h1]; rw [wrap64_id 0 (by omega) (by omega)]
  · simp only [if_neg h1]
    by_cases h2 : (l.length : Int) < s
    · simp only [if_pos h2]; rw [wrap64_id 0 (by omega) (by omega)]
    · simp only [if_neg h2]
      obtain ⟨a, b⟩ := hv_take l hb s.toNat (by omega) (by omega)
      have : (2 : Int) ^ (8 * s.toNat) ≤ 72057594037927936 := pow_le2 (8 * s.toNat) 56 (by omega)
      rw [wrap64_id _ (by omega) (by omega)]
theorem TakeBigS_f (l : List Int) (s : Int) (hb : ∀ x ∈ l, 0 ≤ x ∧ x ≤ 255) (hm : l.length < 140737488355328) : leb_TakeBigS.f l s = some (takeBigS l s) := by
  unfold leb_TakeBigS.f leb_take.f
  rw [if_pos ⟨hm, hb⟩, Option.bind_some]
  unfold takeF takeBigS
  by_cases h1 : s < 1 ∨ 8 < s
  · simp only [if_pos h1]; rfl
  · simp only [if_neg h1]
    by_cases h2 : (l.length : Int) < s
    · simp only [if_pos h2]; rfl
    · simp only [if_neg h2]
      obtain ⟨a, b⟩ := hv_take l hb s.toNat (by omega) (by omega)
      simp only [if_true]
      rw [wrap64_id (8 - s) (by omega) (by omega), wrap64_id (8 * (8 - s)) (by omega) (by omega), if_pos (by omega)]
      have := sgn_shift s.toNat _ (by omega) (by omega) a b
      rw [show ((s.toNat : Nat) : Int) = s by omega] at this
      rw [this]
/- the reference -/
theorem R1_take_l0 (l : List Int) (s : Nat) (hb : ∀ x ∈ l, 0 ≤ x ∧ x ≤ 255) (hl : s ≤ l.length) (h8 : s ≤ 8) (d : Nat) : ∀ (k i : Nat) (n : Int), s - i = d → i ≤ s → d < k → 0 ≤ n → n < 18446744073709551616 → R1_take.l0 k l s n i = some (hv n ((l.take s).drop i)) := by
  induction d with
  | zero =>
    intro k i n hd hi hk h0 h1
    obtain ⟨k, rfl⟩ : ∃ m, k = m + 1 := ⟨k - 1, by omega⟩
    simp only [R1_take.l0]
    rw [if_neg (by omega), List.drop_eq_nil_of_le (by rw [List.length_take]; omega)]; rfl
  | succ d ih =>
    intro k i n hd hi hk h0 h1
    obtain ⟨k, rfl⟩ : ∃ m, k = m + 1 := ⟨k - 1, by omega⟩
    simp only [R1_take.l0]
    have hr := rd_in hb (i : Int)
    rw [if_pos (by omega), if_pos (by omega), if_pos (by omega), wrap64_id _ (by omega) (by omega)]
    have e1 : IntKind.u64.wrap (n * 256) = n * 256 % 18446744073709551616 := rfl
    have e2 : IntKind.u64.wrap (rd l (i : Int)) = rd l (i : Int) % 18446744073709551616 := rfl
    rw [e1, e2, show rd l (i : Int) % 18446744073709551616 = rd l (i : Int) by omega, u64_byte _ _ h0 h1 hr.1 hr.2, show ((i : Int) + 1) = ((i + 1 : Nat) : Int) by omega,
      ih k (i + 1) _ (by omega) (by omega) (by omega) (by omega) (by omega), drop_rd (l.take s) i (by rw [List.length_take]; omega)]
    simp only [hv]
    have : rd (l.take s) (i : Int) = rd l (i : Int) := by
      simp only [rd, Int.toNat_natCast, List.getD_eq_getElem?_getD, List.getElem?_take]
      rw [if_pos (by omega)]
    rw [this]
theorem R1_take_f (k : Nat) (l : List Int) (s : Int) (hb : ∀ x ∈ l, 0 ≤ x ∧ x ≤ 255) (h0 : 0 ≤ s) (hl : s ≤ l.length) (h8 : s ≤ 8) (hk : 9 ≤ k) : R1_take.f k l s = some (hv 0 (l.take s.toNat)) := by
  unfold R1_take.f
  have := R1_take_l0 l s.toNat hb (by omega) (by omega) s.toNat k 0 0 (by omega) (by omega) (by omega) (by omega) (by omega)
  rw [show ((s.toNat : Nat) : Int) = s by omega] at this
  exact this
theorem R1_TakeBig_f (k : Nat) (l : List Int) (s : Int) (hk : 10 ≤ k) (hb : ∀ x ∈ l, 0 ≤ x ∧ x ≤ 255) (hm : l.length ≤ Big47) : R1_TakeBig.f k l s = some (takeBig l s) := by
  obtain ⟨k, rfl⟩ : ∃ q, k = q + 1 := ⟨k - 1, by omega⟩
  have hB : Big47 = 140737488355300 := rfl
  unfold R1_TakeBig.f takeBig
  by_cases h1 : s < 1 ∨ 7 < s
  · rw [if_pos h1]
    by_cases h0 : s < 1
    · rw [if_pos h0]; simp only [R1_TakeBig.j0, if_true]
    · rw [if_neg h0, decide_eq_true (by omega)]; simp only [R1_TakeBig.j0, if_true]
  · rw [if_neg h1, if_neg (by omega), decide_eq_false (by omega)]
    simp only [R1_TakeBig.j0]
    rw [if_neg (by simp)]
    by_cases h2 : (l.length : Int) < s
    · rw [if_pos h2, if_pos h2]
    · obtain ⟨a, b⟩ := hv_take l hb s.toNat (by omega) (by omega)
      have : (2 : Int) ^ (8 * s.toNat) ≤ 72057594037927936 := pow_le2 (8 * s.toNat) 56 (by omega)
      rw [if_neg h2, if_neg h2, R1_take_f k l s hb (by omega) (by omega) (by omega) (by omega), Option.bind_some, if_pos (by omega), if_pos (by omega), Copy_f _ (by rw [List.length_drop]; omega), Option.bind_some, wrap64_id _ (by omega) (by omega)]
theorem R1_TakeBigS_f (k : Nat) (l : List Int) (s : Int) (hk : 10 ≤ k) (hb : ∀ x ∈ l, 0 ≤ x ∧ x ≤ 255) (hm : l.length ≤ Big47) : R1_TakeBigS.f k l s = some (takeBigS l s) := by
  obtain ⟨k, rfl⟩ : ∃ q, k = q + 1 := ⟨k - 1, by omega⟩
  have hB : Big47 = 140737488355300 := rfl
  unfold R1_TakeBigS.f takeBigS
  by_cases h1 : s < 1 ∨ 8 < s
  · rw [if_pos h1]
    by_cases h0 : s < 1
    · rw [if_pos h0]; simp only [R1_TakeBigS.j0, if_true]
    · rw [if_neg h0, decide_eq_true (by omega)]; simp only [R1_TakeBigS.j0, if_true]
  · rw [if_neg h1, if_neg (by omega), decide_eq_false (by omega)]
    simp only [R1_TakeBigS.j0]
    rw [if_neg (by simp)]
    by_cases h2 : (l.length : Int) < s
    · rw [if_pos h2, if_pos h2]
    · obtain ⟨a, b⟩ := hv_take l hb s.toNat (by omega) (by omega)
      have hp64 : (2 : Int) ^ (8 * s.toNat) ≤ 18446744073709551616 := pow_le2 (8 * s.toNat) 64 (by omega)
      obtain ⟨t, ht⟩ : ∃ t : Nat, s = (t : Int) + 1 := ⟨s.toNat - 1, by omega⟩
      obtain ⟨c, r, rfl⟩ : ∃ c r, l = c :: r := by cases l with | nil => simp at h2; omega | cons c r => exact ⟨c, r, rfl⟩
      have hrd : rd (c :: r) 0 = c := rfl
      have hs : s.toNat = t + 1 := by omega
      have hlt : (r.take t).length = t := by rw [List.length_take]; simp only [List.length_cons] at h2; omega
      obtain ⟨e1, e2, e3⟩ := hv_head c (r.take t) (fun x hx => hb x (by simp only [List.mem_cons] at hx ⊢; exact hx.imp id List.mem_of_mem_take)) (by omega)
      rw [hlt] at e1 e3
      have hcb := hb c (by simp)
      have hpe : (2 : Int) ^ (8 * s.toNat) = 256 * 2 ^ (8 * t) := by rw [hs, show 8 * (t + 1) = 8 + 8 * t by omega, Int.pow_add]; rfl
      have htk : (c :: r).take s.toNat = c :: r.take t := by rw [hs]; rfl
      rw [if_neg h2, if_neg h2, R1_take_f k _ s hb (by omega) (by omega) (by omega) (by omega), Option.bind_some, if_pos (show 0 < ((c :: r).length : Int) by simp only [List.length_cons]; omega), hrd]
      rw [Copy_f _ (by rw [List.length_drop]; omega), wrap64_id (8 * s) (by omega) (by omega)]
      simp only [if_pos (show 0 ≤ s by omega), if_pos (show s ≤ ((c :: r).length : Int) by omega), if_pos (show 0 ≤ 8 * s by omega), Option.bind_some]
      rw [htk] at a b ⊢
      have hpp := pow_pos2 (8 * t)
      have hsgn : (2 ^ (8 * s.toNat) ≤ 2 * hv 0 (c :: r.take t)) ↔ 128 ≤ c := by
        rw [hpe, e1]
        constructor
        · intro h
          apply Classical.byContradiction
          intro hc
          have := Int.mul_le_mul_of_nonneg_right (show c ≤ 127 by omega) (show (0 : Int) ≤ 2 ^ (8 * t) by omega)
          omega
        · intro hc
          have := Int.mul_le_mul_of_nonneg_right hc (show (0 : Int) ≤ 2 ^ (8 * t) by omega)
          omega
      unfold sgn
      by_cases hc : c ≥ 128
      · rw [if_pos hc, if_pos (hsgn.2 hc)]
        by_cases h8 : s < 8
        · rw [if_pos h8]
          have hj := (u64_join (8 * s.toNat) _ 18446744073709551615 (by omega) a b (by omega)).1
          have hsh : shl .u64 18446744073709551615 (8 * s) = 18446744073709551615 * 2 ^ (8 * s.toNat) % 18446744073709551616 := by
            unfold shl
            rw [show (8 * s).toNat = 8 * s.toNat by omega, show IntKind.bits .u64 = 64 by rfl, Nat.min_eq_left (by omega)]
            rfl
          rw [hsh, hj]
          have hp56 : (2 : Int) ^ (8 * s.toNat) ≤ 72057594037927936 := pow_le2 (8 * s.toNat) 56 (by omega)
          congr 2
          clear hsh hj hsgn e1 hpe
          generalize (2 : Int) ^ (8 * s.toNat) = t2 at *
          generalize hv 0 (c :: r.take t) = z at *
          unfold wrap64; omega
        · rw [if_neg h8]
          have hq := hsgn.2 hc
          have h64 : (2 : Int) ^ (8 * s.toNat) = 18446744073709551616 := by rw [show s.toNat = 8 by omega]; rfl
          rw [h64] at hq b ⊢
          congr 2
          generalize hv 0 (c :: r.take t) = z at *
          unfold wrap64; omega
      · rw [if_neg hc, if_neg (fun h => hc (hsgn.1 h))]
        have hq : ¬ (2 ^ (8 * s.toNat) ≤ 2 * hv 0 (c :: r.take t)) := fun h => hc (hsgn.1 h)
        congr 2
        exact wrap64_id _ (by omega) (by omega)
/- R1_Big -/
def BigDone (n : Int) (s : Nat) (xs : List Int) (i : Nat) : Prop := xs.length = s ∧ ∀ j, j < s → s ≤ j + i → xs[j]? = some (n / 2 ^ (8 * (s - 1 - j)) % 256)
theorem R1_Big_l0 (n : Int) (s : Nat) (h8 : s ≤ 8) (d : Nat) : ∀ (k i : Nat) (xs : List Int), s - i = d → i ≤ s → d < k → BigDone n s xs i → R1_Big.l0 k n s xs i = some (bigL n s, 0) := by
  induction d with
  | zero =>
    intro k i xs hd hi hk hx
    obtain ⟨k, rfl⟩ : ∃ m, k = m + 1 := ⟨k - 1, by omega⟩
    simp only [R1_Big.l0]
    rw [if_neg (by omega)]
    congr 2
    apply List.ext_getElem?
    intro j
    by_cases hj : j < s
    · rw [hx.2 j hj (by omega)]; simp [bigL, hj]
    · rw [List.getElem?_eq_none (by have := hx.1; omega), List.getElem?_eq_none (by simp [bigL]; omega)]
  | succ d ih =>
    intro k i xs hd hi hk hx
    obtain ⟨k, rfl⟩ : ∃ m, k = m + 1 := ⟨k - 1, by omega⟩
    simp only [R1_Big.l0]
    have hl := hx.1
    rw [if_pos (by omega), wrap64_id (8 * (i : Int)) (by omega) (by omega), if_pos (by omega), wrap64_id ((s : Int) - 1) (by omega) (by omega), wrap64_id ((s : Int) - 1 - i) (by omega) (by omega), if_pos (by omega), if_pos (by omega),
      wrap64_id ((i : Int) + 1) (by omega) (by omega), show ((i : Int) + 1) = ((i + 1 : Nat) : Int) by omega]
    refine ih k (i + 1) _ (by omega) (by omega) (by omega) ⟨by rw [List.length_set, hl], fun j hj hji => ?_⟩
    rw [List.getElem?_set, show ((s : Int) - 1 - i).toNat = s - 1 - i by omega]
    split
    · rename_i hij
      subst hij
      rw [if_pos (by omega), show s - 1 - (s - 1 - i) = i by omega]
      have e2 : shr .i64 n (8 * (i : Int)) = n / 2 ^ min (8 * (i : Int)).toNat 64 := rfl
      rw [e2, show min (8 * (i : Int)).toNat 64 = 8 * i by omega]
    · exact hx.2 j hj (by omega)
theorem shl1 (y : Nat) (h : y ≤ 62) : shl .i64 1 (y : Int) = 2 ^ y := by
  have e : shl .i64 1 (y : Int) = wrap64 (1 * 2 ^ min (y : Int).toNat 64) := i64_w _
  rw [e, Int.toNat_natCast, Nat.min_eq_left (by omega), Int.one_mul]
  have := pow_le2 y 62 h
  have := pow_pos2 y
  exact wrap64_id _ (by omega) (by omega)
theorem shlm1 (y : Nat) (h : y ≤ 62) : shl .i64 (-1) (y : Int) = -(2 ^ y) := by
  have e : shl .i64 (-1) (y : Int) = wrap64 (-1 * 2 ^ min (y : Int).toNat 64) := i64_w _
  rw [e, Int.toNat_natCast, Nat.min_eq_left (by omega), Int.neg_one_mul]
  have := pow_le2 y 62 h
  have := pow_pos2 y
  exact wrap64_id _ (by omega) (by omega)
theorem R1_Big_f (k : Nat) (n s : Int) (hk : 12 ≤ k) (hn0 : -9223372036854775808 ≤ n) (hn1 : n ≤ 9223372036854775807) : R1_Big.f k n s = some (bigF n s) := by
  obtain ⟨k, rfl⟩ : ∃ q, k = q + 2 := ⟨k - 2, by omega⟩
  unfold R1_Big.f bigF
  by_cases h1 : s < 1 ∨ 8 < s
  · rw [if_pos h1]
    by_cases h0 : s < 1
    · rw [if_pos h0]; simp only [R1_Big.j0, if_true]
    · rw [if_neg h0, decide_eq_true (by omega)]; simp only [R1_Big.j0, if_true]
  · rw [if_neg h1, if_neg (by omega), decide_eq_false (by omega)]
    obtain ⟨m, rfl⟩ : ∃ m : Nat, s = (m : Int) := ⟨s.toNat, by omega⟩
    have fin : ∀ b : Bool, R1_Big.j1 (k + 1) n m b = some (if b = true then ([], 9) else (bigL n m, 0)) := by
      intro b
      simp only [R1_Big.j1]
      cases b with
      | true => rfl
      | false =>
        rw [if_neg (show ¬ (false = true) by simp), if_neg (show ¬ (false = true) by simp), if_pos (by omega), if_pos (by omega)]
        exact R1_Big_l0 n m (by omega) m k 0 _ (by omega) (by omega) (by omega) ⟨by simp, fun j hj hji => by omega⟩
    simp only [R1_Big.j0]
    rw [if_neg (by simp), Int.toNat_natCast]
    by_cases h8 : (m : Int) < 8
    · have g0 : 0 ≤ 8 * (m : Int) := by omega
      have g1 : 0 ≤ 8 * (m : Int) - 1 := by omega
      rw [if_pos h8, wrap64_id (8 * (m : Int)) (by omega) (by omega), if_pos g0, wrap64_id (8 * (m : Int) - 1) (by omega) (by omega)]
      simp only [if_pos g1, fin]
      rw [show 8 * (m : Int) = ((8 * m : Nat) : Int) by omega, show ((8 * m : Nat) : Int) - 1 = ((8 * m - 1 : Nat) : Int) by omega, shl1 _ (by omega), shlm1 _ (by omega)]
      clear g0 g1
      by_cases g1 : n ≥ 2 ^ (8 * m)
      · rw [if_pos g1, if_pos (show (m : Int) < 8 ∧ (n < -2 ^ (8 * m - 1) ∨ 2 ^ (8 * m) ≤ n) from ⟨by omega, .inr g1⟩)]; simp
      · rw [if_neg g1]
        by_cases g2 : n < -(2 ^ (8 * m - 1))
        · rw [decide_eq_true g2, if_pos (show (m : Int) < 8 ∧ (n < -2 ^ (8 * m - 1) ∨ 2 ^ (8 * m) ≤ n) from ⟨by omega, .inl g2⟩)]; simp
        · rw [decide_eq_false g2, if_neg (show ¬ ((m : Int) < 8 ∧ (n < -2 ^ (8 * m - 1) ∨ 2 ^ (8 * m) ≤ n)) by omega)]; simp
    · rw [if_neg h8, fin, if_neg (show ¬ ((m : Int) < 8 ∧ (n < -2 ^ (8 * m - 1) ∨ 2 ^ (8 * m) ≤ n)) by omega)]; simp
end Go.Proofs.Ytmfipofoeigleaa.Ext

/- The reference's U, TakeU and TakeS compute what package leb computes. -/
import Derived.Test.YtkhigagkgpfpfaaDoorLebSpec
import Derived.Test.YtkhigagkgpfpfaaDoorPLebx2
import Derived.Test.YtkhigagkgpfpfaaDoorPLebx4
set_option linter.unusedVariables false
set_option linter.unusedSimpArgs false
namespace Go.Proofs.YtkhigagkgpfpfaaDoor.Ext
open Go.RowKit Go.Proofs.YtkhigagkgpfpfaaDoorW.PrintWords Go.Proofs.YtkhigagkgpfpfaaDoorW.PrintLast Go.Proofs.YtkhigagkgpfpfaaDoorW.PrintMore Go.Proofs.YtkhigagkgpfpfaaDoor.PLeb

/- TakeU -/
theorem shl7 (c : Int) (i : Nat) (h0 : 0 ≤ c) (h1 : c < 128) (hi : i < 8) : shl .i64 c (7 * (i : Int)) = c * 2 ^ (7 * i) := by
  have e : shl .i64 c (7 * (i : Int)) = wrap64 (c * 2 ^ min (7 * (i : Int)).toNat 64) := i64_w _
  rw [e, show min (7 * (i : Int)).toNat 64 = 7 * i by omega]
  have hp := pow_pos2 (7 * i)
  have h2 : (2 : Int) ^ (7 * i) ≤ 2 ^ 49 := pow_le2 _ _ (by omega)
  have h3 := Int.mul_le_mul_of_nonneg_right (show c ≤ 127 by omega) (show (0 : Int) ≤ 2 ^ (7 * i) by omega)
  have h4 := Int.mul_nonneg h0 (show (0 : Int) ≤ 2 ^ (7 * i) by omega)
  exact wrap64_id _ (by omega) (by omega)
theorem pow7s (i : Nat) : (2 : Int) ^ (7 * (i + 1)) = 128 * 2 ^ (7 * i) := by
  rw [show 7 * (i + 1) = 7 + 7 * i by omega, Int.pow_add]; rfl
def outU (l : List Int) (o : Int × Int × Int) : Int × List Int × Int :=
  if o.2.2 = 0 then if (o.2.1 > 1 ∧ l.getD (o.2.1 - 1).toNat 0 = 0) ∨ o.1 > 9007199254740991 then (0, [], 4) else (o.1, l.drop o.2.1.toNat, 0) else (0, [], o.2.2)
theorem R1_TakeU_l0 (d : Nat) : ∀ (k i : Nat) (a b : List Int) (n : Int), i + d = 8 → a.length = i → d < k → (∀ x ∈ a ++ b, 0 ≤ x ∧ x ≤ 255) → (a ++ b).length ≤ Big47 → 0 ≤ n → n < 2 ^ (7 * i) →
    R1_TakeU.l0 k (a ++ b) n i = some (outU (a ++ b) (rowL b d i n)) := by
  induction d with
  | zero =>
    intro k i a b n hi ha hk hb hm h0 h1
    obtain ⟨k, rfl⟩ : ∃ m, k = m + 1 := ⟨k - 1, by omega⟩
    simp only [R1_TakeU.l0, rowL, outU]
    rw [if_neg (by omega), if_neg (by omega)]
  | succ d ih =>
    intro k i a b n hi ha hk hb hm h0 h1
    have hB : Big47 = 140737488355300 := rfl
    obtain ⟨k, rfl⟩ : ∃ m, k = m + 1 := ⟨k - 1, by omega⟩
    have hp := pow_pos2 (7 * i)
    have hp7 : (2 : Int) ^ (7 * i) ≤ 2 ^ 49 := pow_le2 _ _ (by omega)
    simp only [R1_TakeU.l0]
    rw [if_pos (by omega)]
    cases b with
    | nil =>
      simp only [List.append_nil, rowL, outU]
      rw [if_pos (by omega), if_neg (by omega)]
    | cons c t =>
      have hlen : (a ++ c :: t).length = i + t.length + 1 := by rw [List.length_append, List.length_cons]; omega
      have hc : 0 ≤ c ∧ c ≤ 255 := hb c (by simp)
      have hrd : rd (a ++ c :: t) (i : Int) = c := by
        unfold rd; rw [Int.toNat_natCast, List.getD_eq_getElem?_getD, ← ha, List.getElem?_append_right (Nat.le_refl _), Nat.sub_self]; rfl
      have hcm : 0 ≤ c % 128 ∧ c % 128 < 128 := by omega
      rw [if_neg (by omega), if_pos (by omega), if_pos (by omega), wrap64_id (7 * (i : Int)) (by omega) (by omega), if_pos (by omega), hrd, u8_and127 c hc.1 hc.2, wrap64_id (c % 128) (by omega) (by omega),
        shl7 _ i hcm.1 hcm.2 (by omega), wrap64_id ((i : Int) + 1) (by omega) (by omega)]
      have h3 := Int.mul_le_mul_of_nonneg_right (show c % 128 ≤ 127 by omega) (show (0 : Int) ≤ 2 ^ (7 * i) by omega)
      have h4 := Int.mul_nonneg hcm.1 (show (0 : Int) ≤ 2 ^ (7 * i) by omega)
      rw [wrap64_id (n + c % 128 * 2 ^ (7 * i)) (by omega) (by omega)]
      have hnew : n + c % 128 * 2 ^ (7 * i) < 2 ^ (7 * (i + 1)) := by rw [pow7s]; omega
      have hp8 : (2 : Int) ^ (7 * (i + 1)) ≤ 2 ^ 56 := pow_le2 _ _ (by omega)
      have er : rowL (c :: t) (d + 1) i n = if c < 128 then ((n + c * 2 ^ (7 * i)) % 18446744073709551616, (i : Int) + 1, 0) else rowL t d (i + 1) ((n + (c - 128) * 2 ^ (7 * i)) % 18446744073709551616) := rfl
      by_cases hlt : c < 128
      · have hc7 : c % 128 = c := by omega
        rw [hc7] at h3 h4 hnew ⊢
        rw [er, if_pos hlt, if_pos hlt, Copy_f _ (by rw [List.length_drop]; omega)]
        simp only [if_pos (show 0 ≤ (i : Int) + 1 by omega), if_pos (show (i : Int) + 1 ≤ ((a ++ c :: t).length : Int) by omega), Option.bind_some, outU, if_true]
        rw [show (n + c * 2 ^ (7 * i)) % 18446744073709551616 = n + c * 2 ^ (7 * i) by omega, show (i : Int) + 1 - 1 = i by omega]
        have hg : (a ++ c :: t).getD ((i : Int)).toNat 0 = c := hrd
        rw [hg]
        by_cases hc0 : c = 0
        · rw [if_pos hc0]
          by_cases hi0 : (i : Int) > 0
          · rw [if_pos hi0, if_pos (.inl ⟨by omega, hc0⟩)]
          · rw [if_neg hi0]
            by_cases hx : n + c * 2 ^ (7 * i) > 9007199254740991
            · rw [if_pos hx, if_pos (.inr hx)]
            · rw [if_neg hx, if_neg (by omega)]
        · rw [if_neg hc0]
          by_cases hx : n + c * 2 ^ (7 * i) > 9007199254740991
          · rw [if_pos hx, if_pos (.inr hx)]
          · rw [if_neg hx, if_neg (by omega)]
      · have hc7 : c % 128 = c - 128 := by omega
        rw [hc7] at h3 h4 hnew ⊢
        rw [er, if_neg hlt, if_neg hlt]
        have e := ih k (i + 1) (a ++ [c]) t (n + (c - 128) * 2 ^ (7 * i)) (by omega) (by simp [ha]) (by omega) (by simpa using hb) (by simpa using hm) (by omega) hnew
        rw [show (a ++ [c]) ++ t = a ++ c :: t by simp] at e
        rw [show (n + (c - 128) * 2 ^ (7 * i)) % 18446744073709551616 = n + (c - 128) * 2 ^ (7 * i) by omega, show ((i : Int) + 1) = ((i + 1 : Nat) : Int) by omega, e]
theorem R1_TakeU_f (k : Nat) (l : List Int) (hk : 10 ≤ k) (hb : ∀ x ∈ l, 0 ≤ x ∧ x ≤ 255) (hm : l.length ≤ Big47) : R1_TakeU.f k l = some (takeU l) := by
  unfold R1_TakeU.f
  exact R1_TakeU_l0 8 k 0 [] l 0 (by omega) rfl (by omega) hb hm (by omega) (by simp)
/- TakeS -/
def pre128 (l : List Int) (i : Nat) : Prop := ∀ c ∈ l.take i, 128 ≤ c
theorem R1_TakeS_l0 (l : List Int) (s : Nat) (hs : s ≤ 10) (hsl : s ≤ l.length) (hpre : ∀ j, j < s → 128 ≤ rd l (j : Int)) (hstop : s = 10 ∨ s = l.length ∨ rd l (s : Int) < 128) (d : Nat) :
    ∀ (k i : Nat), i + d = s → R1_TakeS.l0 (k + d + 1) l i = R1_TakeS.j1 k l (s : Int) := by
  induction d with
  | zero =>
    intro k i hi
    obtain rfl : i = s := by omega
    simp only [R1_TakeS.l0, Nat.add_zero]
    rcases hstop with h | h | h
    · rw [if_neg (by omega)]
    · by_cases h10 : (i : Int) < 10
      · rw [if_pos h10, if_neg (by omega)]
      · rw [if_neg h10]
    · by_cases h10 : (i : Int) < 10
      · rw [if_pos h10]
        by_cases hl : (i : Int) < (l.length : Int)
        · rw [if_pos hl, if_pos (by omega), if_neg (by omega)]
        · rw [if_neg hl]
      · rw [if_neg h10]
  | succ d ih =>
    intro k i hi
    rw [show k + (d + 1) + 1 = (k + d + 1) + 1 by omega]
    simp only [R1_TakeS.l0]
    rw [if_pos (by omega), if_pos (by omega), if_pos (by omega), if_pos (hpre i (by omega)), wrap64_id _ (by omega) (by omega), show ((i : Int) + 1) = ((i + 1 : Nat) : Int) by omega]
    exact ih k (i + 1) (by omega)
theorem val_take_succ (l : List Int) : ∀ (i : Nat), i < l.length → val (l.take (i + 1)) = val (l.take i) + rd l (i : Int) % 128 * 128 ^ i := by
  induction l with
  | nil => intro i h; simp at h
  | cons c t ih =>
    intro i h
    cases i with
    | zero => simp [val, rd]
    | succ i =>
      rw [List.take_succ_cons, List.take_succ_cons]
      simp only [val]
      rw [ih i (by simpa using h), Int.pow_succ]
      have : rd (c :: t) ((i + 1 : Nat) : Int) = rd t (i : Int) := by simp [rd]
      rw [this, Int.mul_add, ← Int.mul_assoc (rd t (i : Int) % 128), Int.mul_comm 128 (rd t (i : Int) % 128 * 128 ^ i)]; omega
theorem val_take_lt (l : List Int) : ∀ i : Nat, 0 ≤ val (l.take i) ∧ val (l.take i) < 128 ^ i := by
  induction l with
  | nil => intro i; simp only [List.take_nil, val]; exact ⟨by omega, Int.pow_pos (by omega)⟩
  | cons c t ih =>
    intro i
    cases i with
    | zero => simp [val]
    | succ i =>
      rw [List.take_succ_cons]
      simp only [val]
      obtain ⟨a, b⟩ := ih i
      rw [Int.pow_succ]; omega
theorem R1_TakeS_l1 (l : List Int) (s : Nat) (hs : s ≤ 9) (hsl : s < l.length) (hb : ∀ x ∈ l, 0 ≤ x ∧ x ≤ 255) (d : Nat) :
    ∀ (k i : Nat), i + d = s + 1 → R1_TakeS.l1 (k + d + 1) l s (val (l.take i) % 18446744073709551616) i = R1_TakeS.j4 k l s (val (l.take (s + 1)) % 18446744073709551616) (decide (64 ≤ rd l (s : Int) ∧ (s : Int) < 9)) := by
  induction d with
  | zero =>
    intro k i hi
    obtain rfl : i = s + 1 := by omega
    simp only [R1_TakeS.l1, Nat.add_zero]
    rw [if_neg (by omega), if_pos (by omega), if_pos (by omega)]
    by_cases h : rd l (s : Int) ≥ 64
    · rw [if_pos h]
      congr 1
      rw [decide_eq_decide]; omega
    · rw [if_neg h, decide_eq_false (by omega)]
  | succ d ih =>
    intro k i hi
    rw [show k + (d + 1) + 1 = (k + d + 1) + 1 by omega]
    simp only [R1_TakeS.l1]
    have hr := rd_in hb (i : Int)
    rw [if_pos (by omega), if_pos (by omega), if_pos (by omega), wrap64_id (7 * (i : Int)) (by omega) (by omega), if_pos (by omega), u8_and127 _ hr.1 hr.2, wrap64_id ((i : Int) + 1) (by omega) (by omega)]
    have e1 : ∀ z, IntKind.u64.wrap z = z % 18446744073709551616 := fun z => rfl
    have e2 : ∀ z, shl .u64 z (7 * (i : Int)) = z * 2 ^ (7 * i) % 18446744073709551616 := by
      intro z
      have : shl .u64 z (7 * (i : Int)) = z * 2 ^ min (7 * (i : Int)).toNat 64 % 18446744073709551616 := rfl
      rw [this, show min (7 * (i : Int)).toNat 64 = 7 * i by omega]
    rw [e1, e2, show rd l (i : Int) % 128 % 18446744073709551616 = rd l (i : Int) % 128 by omega]
    obtain ⟨v0, v1⟩ := val_take_lt l i
    rw [pow7] at v1
    have h63 : (2 : Int) ^ (7 * i) ≤ 2 ^ 63 := pow_le2 _ _ (by omega)
    have hj := (u64_join (7 * i) (val (l.take i)) (rd l (i : Int) % 128) (by omega) v0 v1 (by omega)).1
    rw [show val (l.take i) % 18446744073709551616 = val (l.take i) by omega, hj, ← pow7, ← val_take_succ l i (by omega), show ((i : Int) + 1) = ((i + 1 : Nat) : Int) by omega]
    exact ih k (i + 1) (by omega)
theorem wrap64_in (x : Int) : -9223372036854775808 ≤ wrap64 x ∧ wrap64 x ≤ 9223372036854775807 := by unfold wrap64; omega
theorem TakeS_j5 (k : Nat) (p r : List Int) (s : Nat) (hs : p.length = s + 1) (hl : s < 10) (hm : (p ++ r).length ≤ Big47) (hk : 12 ≤ k) (x : Int) :
    R1_TakeS.j5 (k + 1) (p ++ r) (s : Int) x = some (if sb (wrap64 x) = p then (wrap64 x, r, 0) else (0, [], 4)) := by
  have hB : Big47 = 140737488355300 := rfl
  have hlen : (p ++ r).length = p.length + r.length := List.length_append
  have htk : (p ++ r).take (s + 1) = p := by rw [← hs, List.take_left]
  have hdr : (p ++ r).drop (s + 1) = r := by rw [← hs, List.drop_left]
  have hwe : wrap64 ((s : Int) + 1) = (s : Int) + 1 := wrap64_id _ (by omega) (by omega)
  have hw := wrap64_in x
  have hsl := sb_len10 (wrap64 x) hw.1 hw.2
  have hS : R1_S.f (wrap64 x) = some (sb (wrap64 x)) := by unfold R1_S.f; rw [if_pos hw]
  have g1 : (0 : Int) ≤ (s : Int) + 1 := by omega
  have g2 : (s : Int) + 1 ≤ ((p ++ r).length : Int) := by omega
  have g3 : ((s : Int) + 1).toNat = s + 1 := by omega
  have hE : R0_EqBytes.f k (sb (wrap64 x)) p = some (decide (sb (wrap64 x) = p)) := Eq_f _ _ _ (by omega) (by omega)
  have hC : R0_CopyBytes.f r = some r := Copy_f r (by omega)
  simp only [R1_TakeS.j5]
  rw [hS, Option.bind_some, hwe, if_pos g1, if_pos g2, g3, htk, hdr, hE, Option.bind_some, hC, Option.bind_some]
  by_cases he : sb (wrap64 x) = p
  · rw [decide_eq_true he, if_pos he]; simp only [if_true]
  · rw [decide_eq_false he, if_neg he]; simp only [Bool.false_eq_true, if_false]
set_option maxHeartbeats 1000000 in
theorem R1_TakeS_form (k : Nat) {p : List Int} (h : Form p) (r : List Int) (hk : (p ++ r).length + 30 ≤ k) (hb : ∀ x ∈ p ++ r, 0 ≤ x ∧ x ≤ 255) (hm : (p ++ r).length ≤ Big47) (hl : p.length ≤ 10) :
    (BadS p → R1_TakeS.f k (p ++ r) = some (0, [], 4)) ∧ (¬ BadS p → R1_TakeS.f k (p ++ r) = some (sval p, r, 0)) := by
  have hB : Big47 = 140737488355300 := rfl
  have hp := h.pos
  have hla := h.last
  have hlen : (p ++ r).length = p.length + r.length := List.length_append
  obtain ⟨s, hs⟩ : ∃ s, p.length = s + 1 := ⟨p.length - 1, by omega⟩
  have elast : rd (p ++ r) (s : Int) = lastOf p := by
    unfold rd; rw [Int.toNat_natCast, show s = p.length - 1 by omega, lastOf_getD h]
  have hpre : ∀ j, j < s → 128 ≤ rd (p ++ r) (j : Int) := by
    intro j hj
    refine h.cut s (by omega) _ ?_
    unfold rd
    rw [Int.toNat_natCast, List.getD_eq_getElem?_getD, List.getElem?_append_left (by omega), List.getElem?_eq_getElem (by omega)]
    exact List.mem_take_iff_getElem.2 ⟨j, by omega, by simp⟩
  obtain ⟨k1, rfl⟩ : ∃ q, k = q + 1 + 1 + s + 1 := ⟨k - (s + 3), by omega⟩
  have e0 : R1_TakeS.l0 (k1 + 1 + 1 + s + 1) (p ++ r) ((0 : Nat) : Int) = R1_TakeS.j1 (k1 + 1 + 1) (p ++ r) (s : Int) :=
    R1_TakeS_l0 (p ++ r) s (by omega) (by omega) hpre (.inr (.inr (by omega))) s (k1 + 1 + 1) 0 (by omega)
  unfold R1_TakeS.f
  rw [Int.natCast_zero] at e0
  rw [e0]
  simp only [R1_TakeS.j1]
  rw [if_neg (by omega), if_neg (by omega)]
  have htk : (p ++ r).take (s + 1) = p := by rw [← hs, List.take_left]
  have hdr : (p ++ r).drop (s + 1) = r := by rw [← hs, List.drop_left]
  -- the shape behind j2
  have j2 : ∀ b : Bool, R1_TakeS.j2 (k1 + 1) (p ++ r) (s : Int) b = if b = true then some (0, [], 4) else R1_TakeS.l1 k1 (p ++ r) s 0 0 := fun b => by simp only [R1_TakeS.j2]
  by_cases hbad9 : s = 9 ∧ lastOf p ≠ 0 ∧ lastOf p ≠ 127
  · have e9 : rd (p ++ r) 9 = lastOf p := by rw [← elast, hbad9.1]; rfl
    rw [if_pos (by omega), if_pos (by omega), e9, if_neg hbad9.2.1, j2, if_pos (by simp [hbad9.2.2])]
    exact ⟨fun _ => rfl, fun hn => absurd (.inr ⟨by omega, hbad9.2⟩) hn⟩
  · have e1 : (if (s : Int) = 9 then if 9 < ((p ++ r).length : Int) then if rd (p ++ r) 9 = 0 then R1_TakeS.j2 (k1 + 1) (p ++ r) s false else R1_TakeS.j2 (k1 + 1) (p ++ r) s (rd (p ++ r) 9 != 127) else none else R1_TakeS.j2 (k1 + 1) (p ++ r) s false) = R1_TakeS.j2 (k1 + 1) (p ++ r) s false := by
      by_cases h9 : (s : Int) = 9
      · have e9 : rd (p ++ r) 9 = lastOf p := by rw [← elast, h9]
        rw [if_pos h9, if_pos (by omega), e9]
        by_cases h0 : lastOf p = 0
        · rw [if_pos h0]
        · rw [if_neg h0]
          have : lastOf p = 127 := by
            apply Classical.byContradiction; intro h127; exact hbad9 ⟨by omega, h0, h127⟩
          rw [this]; rfl
      · rw [if_neg h9]
    rw [e1, j2, if_neg (by simp)]
    have HB9 := Aside0.mk hbad9
    clear hbad9 e1
    obtain ⟨k2, rfl⟩ : ∃ q, k1 = q + 1 + (s + 1) + 1 := ⟨k1 - (s + 3), by omega⟩
    have hk3 : 13 ≤ k2 := by omega
    obtain ⟨k3, hk4⟩ : ∃ q, k2 = q + 1 := ⟨k2 - 1, by omega⟩
    have q1 : s < 10 := by omega
    have q3 : 12 ≤ k3 := by omega
    have e2 := R1_TakeS_l1 (p ++ r) s (by omega) (by omega) hb (s + 1) (k2 + 1) 0 (by omega)
    simp only [List.take_zero, val] at e2
    rw [show (0 : Int) % 18446744073709551616 = 0 by omega, show ((0 : Nat) : Int) = 0 by rfl, htk, elast] at e2
    rw [e2]
    have hv0 := h.val_nn
    have hvl := h.val_lt
    rw [pow7] at hvl
    have hsv_ := h.sval_val
    rw [pow7] at hsv_
    have HSV := Aside0.mk hsv_
    clear hsv_
    have hwe := Aside0.mk (show wrap64 ((s : Int) + 1) = (s : Int) + 1 from wrap64_id _ (by omega) (by omega))
    -- what the number is
    have fin : ∀ x : Int, R1_TakeS.j5 k2 (p ++ r) (s : Int) x = some (if sb (wrap64 x) = p then (wrap64 x, r, 0) else (0, [], 4)) := by
      rw [hk4]
      exact fun x => TakeS_j5 k3 p r s hs q1 hm q3 x
    have key : ∀ x : Int, wrap64 x = sval p → R1_TakeS.j5 k2 (p ++ r) (s : Int) x = some (if sb (sval p) = p then (sval p, r, 0) else (0, [], 4)) := by
      intro x hx; rw [fin, hx]
    have hall : R1_TakeS.j4 (k2 + 1) (p ++ r) (s : Int) (val p % 18446744073709551616) (decide (64 ≤ lastOf p ∧ (s : Int) < 9)) = some (if sb (sval p) = p then (sval p, r, 0) else (0, [], 4)) := by
      simp only [R1_TakeS.j4]
      rw [hwe.out, wrap64_id (7 * ((s : Int) + 1)) (by omega) (by omega), if_pos (show 0 ≤ 7 * ((s : Int) + 1) by omega)]
      by_cases h9 : p.length ≤ 9
      · have h63 : (2 : Int) ^ (7 * p.length) ≤ 2 ^ 63 := pow_le2 _ _ (by omega)
        have hpp := pow_pos2 (7 * p.length)
        rw [show val p % 18446744073709551616 = val p by omega]
        by_cases h6 : 64 ≤ lastOf p
        · rw [decide_eq_true ⟨h6, by omega⟩, if_pos rfl]
          refine key _ ?_
          have hj := (u64_join (7 * p.length) (val p) 18446744073709551615 (by omega) hv0 hvl (by omega)).1
          have hsh : shl .u64 18446744073709551615 (7 * ((s : Int) + 1)) = 18446744073709551615 * 2 ^ (7 * p.length) % 18446744073709551616 := by
            have : shl .u64 18446744073709551615 (7 * ((s : Int) + 1)) = 18446744073709551615 * 2 ^ min (7 * ((s : Int) + 1)).toNat 64 % 18446744073709551616 := rfl
            rw [this, show min (7 * ((s : Int) + 1)).toNat 64 = 7 * p.length by omega]
          rw [hsh, hj, HSV.out, if_neg (by omega)]
          generalize (2 : Int) ^ (7 * p.length) = t at *
          unfold wrap64; omega
        · rw [decide_eq_false (by omega), if_neg (by simp)]
          refine key _ ?_
          rw [HSV.out, if_pos (by omega)]
          exact wrap64_id _ (by omega) (by omega)
      · have h10 : p.length = 10 := by omega
        rw [decide_eq_false (by omega), if_neg (by simp)]
        refine key _ ?_
        obtain ⟨low, l0, l1, ev⟩ := val_split h
        have hn : lastOf p = 0 ∨ lastOf p = 127 := by
          by_cases g : lastOf p = 0
          · exact .inl g
          · refine .inr (Classical.byContradiction fun g2 => HB9.out ⟨by omega, g, g2⟩)
        rw [h10] at ev l1
        rw [HSV.out, h10]
        have e9 : (128 : Int) ^ (10 - 1) = 9223372036854775808 := by decide
        have e10 : (2 : Int) ^ (7 * 10) = 1180591620717411303424 := by decide
        rw [e9] at ev l1
        rw [e10]
        rcases hn with hn | hn
        · rw [hn] at ev; rw [if_pos (by omega)]
          unfold wrap64; omega
        · rw [hn] at ev; rw [if_neg (by omega)]
          unfold wrap64; omega
    rw [hall]
    constructor
    · intro hbd
      have : ¬ sb (sval p) = p := by
        intro he
        rcases hbd with hbd | hbd
        · exact hbd (he ▸ sb_least (sval p))
        · exact HB9.out ⟨by omega, hbd.2⟩
      rw [if_neg this]
    · intro hbd
      rw [if_pos (h.sb_of (Classical.byContradiction fun g => hbd (.inl g)))]
theorem R1_TakeS_f (k : Nat) (l : List Int) (hk : l.length + 30 ≤ k) (hb : ∀ x ∈ l, 0 ≤ x ∧ x ≤ 255) (hm : l.length ≤ Big47) : R1_TakeS.f k l = leb_TakeS.f k l := by
  have hB : Big47 = 140737488355300 := rfl
  rcases rowL_inv l hb 10 0 0 with ⟨p, r, rfl, hf, hl, e⟩ | ⟨e, h1, h2⟩ | ⟨e, h1, h2⟩
  · by_cases hbd : BadS p
    · rw [(R1_TakeS_form k hf r hk hb hm hl).1 hbd, (TakeS_form k hf r (by omega) hb hm hl).1 hbd]
    · rw [(R1_TakeS_form k hf r hk hb hm hl).2 hbd, (TakeS_form k hf r (by omega) hb hm hl).2 hbd]
  · have e1 : leb_TakeS.f k l = some (0, [], 4) := by unfold leb_TakeS.f; rw [row10 l hb, Option.bind_some, e]; rfl
    rw [e1]
    obtain ⟨k1, rfl⟩ : ∃ q, k = q + 1 + 10 + 1 := ⟨k - 12, by omega⟩
    have e0 : R1_TakeS.l0 (k1 + 1 + 10 + 1) l ((0 : Nat) : Int) = R1_TakeS.j1 (k1 + 1) l ((10 : Nat) : Int) :=
      R1_TakeS_l0 l 10 (by omega) (by omega) (fun j hj => h2 _ (by
        unfold rd
        rw [Int.toNat_natCast, List.getD_eq_getElem?_getD, List.getElem?_eq_getElem (by omega)]
        exact List.mem_take_iff_getElem.2 ⟨j, by omega, by simp⟩)) (.inl rfl) 10 (k1 + 1) 0 (by omega)
    unfold R1_TakeS.f
    rw [Int.natCast_zero] at e0
    rw [e0]
    simp only [R1_TakeS.j1]
    rw [if_pos (show ((10 : Nat) : Int) = 10 by omega)]
  · have e1 : leb_TakeS.f k l = some (0, [], 3) := by unfold leb_TakeS.f; rw [row10 l hb, Option.bind_some, e]; rfl
    rw [e1]
    obtain ⟨k1, rfl⟩ : ∃ q, k = q + 1 + l.length + 1 := ⟨k - (l.length + 2), by omega⟩
    have e0 : R1_TakeS.l0 (k1 + 1 + l.length + 1) l ((0 : Nat) : Int) = R1_TakeS.j1 (k1 + 1) l ((l.length : Nat) : Int) :=
      R1_TakeS_l0 l l.length (by omega) (by omega) (fun j hj => h2 _ (by
        unfold rd
        rw [Int.toNat_natCast, List.getD_eq_getElem?_getD, List.getElem?_eq_getElem (by omega)]
        exact List.getElem_mem _)) (.inr (.inl rfl)) l.length (k1 + 1) 0 (by omega)
    unfold R1_TakeS.f
    rw [Int.natCast_zero] at e0
    rw [e0]
    simp only [R1_TakeS.j1]
    rw [if_neg (by omega), if_pos trivial]
end Go.Proofs.YtkhigagkgpfpfaaDoor.Ext

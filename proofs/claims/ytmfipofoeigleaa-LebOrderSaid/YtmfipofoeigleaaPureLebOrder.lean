/- Numbers of as many bytes, the highest first, stand as their bytes do. -/
import Derived.Test.YtmfipofoeigleaaPLebx14
import Derived.Test.YtmfipofoeigleaaLebSpec2
import Derived.OpenShut
set_option linter.unusedVariables false
set_option linter.unusedSimpArgs false
namespace Go.Proofs.Ytmfipofoeigleaa.Pure
open Go.RowKit Go.Proofs.Ytmfipofoeigleaa.PLeb Go.Proofs.YtmfipofoeigleaaW.PrintWords Go.Proofs.YtmfipofoeigleaaW.PrintLast Go.Proofs.YtmfipofoeigleaaW.PrintMore Go.Proofs.Ytmfipofoeigleaa.Ext

theorem works_ok : L1_works.f = some true := rfl
theorem bytes_of {l : List Int} (h : ∀ x ∈ l, (Lit.int .u8 x).wf = true) : ∀ x ∈ l, 0 ≤ x ∧ x ≤ 255 := fun x hx => bounds_u8 (h x hx)
theorem cmp_hv : ∀ (a b : List Int), a.length = b.length → a.length ≤ 8 → (∀ x ∈ a, 0 ≤ x ∧ x ≤ 255) → (∀ x ∈ b, 0 ≤ x ∧ x ≤ 255) → (cmpL a b < 0 ↔ hv 0 a < hv 0 b) ∧ (cmpL a b = 0 ↔ hv 0 a = hv 0 b)
  | [], [], _, _, _, _ => by simp [cmpL, hv]
  | [], _ :: _, h, _, _, _ => by simp at h
  | _ :: _, [], h, _, _, _ => by simp at h
  | x :: a, y :: b, h, h8, ha, hb => by
    simp only [List.length_cons] at h h8
    obtain ⟨ih1, ih2⟩ := cmp_hv a b (by omega) (by omega) (fun z hz => ha z (by simp [hz])) (fun z hz => hb z (by simp [hz]))
    obtain ⟨e1, p1, q1⟩ := hv_head x a ha (by omega)
    obtain ⟨e2, p2, q2⟩ := hv_head y b hb (by omega)
    rw [show b.length = a.length by omega] at e2 q2
    rw [e1, e2]
    have hp := pow_pos2 (8 * a.length)
    simp only [cmpL]
    generalize (2 : Int) ^ (8 * a.length) = t at *
    by_cases hxy : x < y
    · rw [if_pos hxy]
      have := Int.mul_le_mul_of_nonneg_right (show x + 1 ≤ y by omega) (show 0 ≤ t by omega)
      rw [Int.add_mul] at this
      omega
    · rw [if_neg hxy]
      by_cases hyx : y < x
      · rw [if_pos hyx]
        have := Int.mul_le_mul_of_nonneg_right (show y + 1 ≤ x by omega) (show 0 ≤ t by omega)
        rw [Int.add_mul] at this
        omega
      · rw [if_neg hyx]
        have : x = y := by omega
        subst this
        omega
theorem big_in (n : Int) (s : Nat) (h1 : 1 ≤ s) (h7 : s ≤ 7) (h0 : 0 ≤ n) (hn : n < 2 ^ (8 * s)) : leb_Big.f n (s : Int) = some (bigL n s, 0) := by
  unfold leb_Big.f bigF
  have hp := pow_pos2 (8 * s - 1)
  rw [if_neg (by omega), Int.toNat_natCast, if_neg (by omega)]
theorem LebOrder : L1_LebOrder.Pure := by
  intro a0 a1 a2 hw0 hw1 hw2
  have hb0 := bounds_i64 hw0
  have hb1 := bounds_i64 hw1
  have hb2 := bounds_i64 hw2
  unfold L1_LebOrder.f
  rw [works_ok, Option.bind_some, if_pos rfl, Bring_f a2 7 hb2 (by omega) (by omega), Option.bind_some]
  obtain ⟨s, hs⟩ : ∃ s : Nat, 1 + a2 % 7 = (s : Int) := ⟨(1 + a2 % 7).toNat, by omega⟩
  rw [wrap64_id (1 + a2 % 7) (by omega) (by omega), hs, wrap64_id (8 * (s : Int)) (by omega) (by omega), if_pos (by omega), show 8 * (s : Int) = ((8 * s : Nat) : Int) by omega, shl1 _ (by omega)]
  have hp := pow_pos2 (8 * s)
  have hp2 : (2 : Int) ^ (8 * s) ≤ 72057594037927936 := pow_le2 (8 * s) 56 (by omega)
  rw [Bring_f a0 _ hb0 hp (by omega), Bring_f a1 _ hb1 hp (by omega), Option.bind_some, Option.bind_some]
  have x0 := Int.emod_nonneg a0 (show (2 : Int) ^ (8 * s) ≠ 0 by omega)
  have x1 := Int.emod_lt_of_pos a0 hp
  have y0 := Int.emod_nonneg a1 (show (2 : Int) ^ (8 * s) ≠ 0 by omega)
  have y1 := Int.emod_lt_of_pos a1 hp
  generalize a0 % 2 ^ (8 * s) = x at *
  generalize a1 % 2 ^ (8 * s) = y at *
  rw [big_in x s (by omega) (by omega) x0 x1, big_in y s (by omega) (by omega) y0 y1, Option.bind_some, Option.bind_some]
  simp only
  have hcmp := cmp_hv (bigL x s) (bigL y s) (by rw [bigL_len, bigL_len]) (by rw [bigL_len]; omega) (bigL_bytes x s) (bigL_bytes y s)
  rw [hv_bigL s x (by omega), hv_bigL s y (by omega), Int.emod_eq_of_lt x0 x1, Int.emod_eq_of_lt y0 y1] at hcmp
  unfold bytes_Compare.f
  rw [if_pos ⟨bigL_bytes x s, bigL_bytes y s⟩, Option.bind_some, if_pos trivial, if_pos trivial]
  generalize cmpL (bigL x s) (bigL y s) = v at *
  have e1 : decide (v < 0) = decide (x < y) := by rw [decide_eq_decide]; exact hcmp.1
  have e2 : (v == 0) = (x == y) := by rw [Bool.eq_iff_iff, beq_iff_eq, beq_iff_eq]; exact hcmp.2
  rw [e1, e2]; simp
end Go.Proofs.Ytmfipofoeigleaa.Pure

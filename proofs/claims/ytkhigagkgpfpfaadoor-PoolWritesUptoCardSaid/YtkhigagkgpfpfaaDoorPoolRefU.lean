/- The reference's U computes what package leb computes. -/
import Derived.Test.YtkhigagkgpfpfaaDoorLebSpec
import Derived.Test.YtkhigagkgpfpfaaDoorPLebx2
import Derived.Test.YtkhigagkgpfpfaaDoorPLebx6
set_option linter.unusedVariables false
set_option linter.unusedSimpArgs false
namespace Go.Proofs.YtkhigagkgpfpfaaDoor.Ext
open Go.RowKit Go.Proofs.YtkhigagkgpfpfaaDoorW.PrintWords Go.Proofs.YtkhigagkgpfpfaaDoorW.PrintLast Go.Proofs.YtkhigagkgpfpfaaDoorW.PrintMore Go.Proofs.YtkhigagkgpfpfaaDoor.PLeb

theorem R1_U_l0 (m : Nat) : ∀ (k : Nat) (n : Nat) (out : List Int), m < k → n < 128 ^ (m + 1) → n ≤ 9007199254740991 → out.length + m < 140737488355328 → R1_U.l0 k n out = some (out ++ ub n, 0) := by
  induction m with
  | zero =>
    intro k n out hk hn h9 ho
    obtain ⟨k, rfl⟩ : ∃ q, k = q + 1 := ⟨k - 1, by omega⟩
    simp only [R1_U.l0]
    rw [if_pos (by omega), if_pos (by omega), ub, if_pos (by omega), show (n : Int) % 256 = n by omega]
  | succ m ih =>
    intro k n out hk hn h9 ho
    obtain ⟨k, rfl⟩ : ∃ q, k = q + 1 := ⟨k - 1, by omega⟩
    simp only [R1_U.l0]
    by_cases h : n < 128
    · rw [if_pos (by omega), if_pos (by omega), ub, if_pos h, show (n : Int) % 256 = n by omega]
    · have e1 : Int.tmod (n : Int) 128 = (n : Int) % 128 := Int.tmod_eq_emod_of_nonneg (by omega)
      have e2 : Int.tdiv (n : Int) 128 = (n : Int) / 128 := Int.tdiv_eq_ediv_of_nonneg (by omega)
      rw [if_neg (by omega), if_pos (by omega), e1, e2, wrap64_id _ (by omega) (by omega), wrap64_id _ (by omega) (by omega), show (n : Int) / 128 = ((n / 128 : Nat) : Int) by omega,
        ih k (n / 128) _ (by omega) (by rw [Nat.pow_succ] at hn; omega) (by omega) (by simp; omega), List.append_assoc]
      rw [ub.eq_1 n, if_neg h]
      congr 3
      simp only [List.cons_append, List.nil_append, List.cons.injEq, and_true]
      omega
theorem R1_U_f (k : Nat) (n : Int) (hk : 10 ≤ k) (h0 : 0 ≤ n) (h1 : n ≤ 9007199254740991) : R1_U.f k n = some (ub n.toNat, 0) := by
  unfold R1_U.f
  obtain ⟨k, rfl⟩ : ∃ q, k = q + 1 := ⟨k - 1, by omega⟩
  rw [if_neg (by omega), decide_eq_false (by omega)]
  simp only [R1_U.j0]
  rw [if_neg (by simp)]
  have := R1_U_l0 7 k n.toNat [] (by omega) (by omega) (by omega) (by simp)
  rw [show ((n.toNat : Nat) : Int) = n by omega] at this
  rw [this]; rfl
theorem R1_U_bad (k : Nat) (n : Int) (hk : 1 ≤ k) (h : n < 0 ∨ 9007199254740991 < n) : R1_U.f k n = some ([], 9) := by
  unfold R1_U.f
  obtain ⟨k, rfl⟩ : ∃ q, k = q + 1 := ⟨k - 1, by omega⟩
  by_cases h0 : n < 0
  · rw [if_pos h0]; simp only [R1_U.j0, if_true]
  · rw [if_neg h0, decide_eq_true (by omega)]; simp only [R1_U.j0, if_true]
end Go.Proofs.YtkhigagkgpfpfaaDoor.Ext

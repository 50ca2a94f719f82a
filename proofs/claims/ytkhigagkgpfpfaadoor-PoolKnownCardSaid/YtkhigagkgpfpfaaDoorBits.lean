/- Bits of bytes and of 64-bit numbers, in plain arithmetic. -/
import Derived.WalkKit
import Derived.Laws.BitsAllLaws
set_option linter.unusedVariables false
namespace Go.Proofs.YtkhigagkgpfpfaaDoor.Ext

theorem fin_of {P : Int → Prop} (h : ∀ X : Fin 256, P ((X.val : Nat) : Int)) (c : Int) (h0 : 0 ≤ c) (h1 : c ≤ 255) : P c := by
  have := h ⟨c.toNat, by omega⟩
  simp only at this
  rwa [show ((c.toNat : Nat) : Int) = c by omega] at this
theorem u8_and128 (c : Int) (h0 : 0 ≤ c) (h1 : c ≤ 255) : bits .and .u8 c 128 = if c < 128 then 0 else 128 :=
  fin_of (P := fun c => bits .and .u8 c 128 = if c < 128 then 0 else 128) (by decide +kernel) c h0 h1
theorem u8_not128 (c : Int) (h0 : 0 ≤ c) (h1 : c ≤ 255) : bits .andNot .u8 c 128 = c % 128 :=
  fin_of (P := fun c => bits .andNot .u8 c 128 = c % 128) (by decide +kernel) c h0 h1
theorem u8_and64 (c : Int) (h0 : 0 ≤ c) (h1 : c ≤ 255) : bits .and .u8 c 64 = if c % 128 < 64 then 0 else 64 :=
  fin_of (P := fun c => bits .and .u8 c 64 = if c % 128 < 64 then 0 else 64) (by decide +kernel) c h0 h1
theorem u8_or_128 (c : Int) (h0 : 0 ≤ c) (h1 : c ≤ 255) : bits .or .u8 c 128 = c % 128 + 128 :=
  fin_of (P := fun c => bits .or .u8 c 128 = c % 128 + 128) (by decide +kernel) c h0 h1
theorem u8_and127 (c : Int) (h0 : 0 ≤ c) (h1 : c ≤ 255) : bits .and .u8 c 127 = c % 128 :=
  fin_of (P := fun c => bits .and .u8 c 127 = c % 128) (by decide +kernel) c h0 h1
/-- bits behind bits -/
theorem u64_join (k : Nat) (x z : Int) (hk : k ≤ 64) (hx0 : 0 ≤ x) (hx : x < 2 ^ k) (hz : 0 ≤ z) : bits .or .u64 x (z * 2 ^ k % 18446744073709551616) = (x + z * 2 ^ k) % 18446744073709551616 ∧ x + z * 2 ^ k % 18446744073709551616 = (x + z * 2 ^ k) % 18446744073709551616 := by
  have h64 : (18446744073709551616 : Int) = 2 ^ k * 2 ^ (64 - k) := by
    rw [← Int.pow_add, show k + (64 - k) = 64 by omega]; rfl
  have hp : (0 : Int) < 2 ^ k := Int.pow_pos (by omega)
  have hq : (0 : Int) < 2 ^ (64 - k) := Int.pow_pos (by omega)
  have e1 : z * 2 ^ k % 18446744073709551616 = 2 ^ k * (z % 2 ^ (64 - k)) := by
    rw [h64, Int.mul_comm z, Int.mul_emod_mul_of_pos _ _ hp]
  have hr0 := Int.emod_nonneg z (show (2 : Int) ^ (64 - k) ≠ 0 by omega)
  have hr1 := Int.emod_lt_of_pos z hq
  have hle : 2 ^ k * (z % 2 ^ (64 - k)) + 2 ^ k ≤ 18446744073709551616 := by
    rw [h64]
    calc (2 : Int) ^ k * (z % 2 ^ (64 - k)) + 2 ^ k = 2 ^ k * (z % 2 ^ (64 - k) + 1) := by rw [Int.mul_add, Int.mul_one]
      _ ≤ 2 ^ k * 2 ^ (64 - k) := Int.mul_le_mul_of_nonneg_left (by omega) (by omega)
  have hn0 : 0 ≤ 2 ^ k * (z % 2 ^ (64 - k)) := Int.mul_nonneg (by omega) hr0
  have e2 : x + z * 2 ^ k % 18446744073709551616 = (x + z * 2 ^ k) % 18446744073709551616 := by
    rw [Int.add_emod, e1]
    have hx' : x % 18446744073709551616 = x := Int.emod_eq_of_lt hx0 (by omega)
    rw [hx', Int.emod_eq_of_lt (a := x + 2 ^ k * (z % 2 ^ (64 - k))) (by omega) (by omega)]
  refine ⟨?_, e2⟩
  rw [← e2, u64_or _ _ hx0 (by omega) (by omega) (by omega), e1]
  have hn : (2 ^ k * (z % 2 ^ (64 - k))).toNat = 2 ^ k * (z % 2 ^ (64 - k)).toNat := by
    obtain ⟨q, hq⟩ := Int.eq_ofNat_of_zero_le hr0
    rw [hq]
    have : ((2 : Int) ^ k * (q : Int)) = ((2 ^ k * q : Nat) : Int) := by push_cast; rfl
    rw [this]; rfl
  have hxn : x.toNat < 2 ^ k := by
    have : ((x.toNat : Nat) : Int) < ((2 ^ k : Nat) : Int) := by push_cast; omega
    exact_mod_cast this
  rw [hn, Nat.or_comm, ← Nat.two_pow_add_eq_or_of_lt hxn]
  have e3 : (((2 ^ k * (z % 2 ^ (64 - k)).toNat + x.toNat : Nat)) : Int) = 2 ^ k * (z % 2 ^ (64 - k)) + x := by
    push_cast; rw [Int.toNat_of_nonneg hr0, Int.toNat_of_nonneg hx0]
  rw [e3]; omega
end Go.Proofs.YtkhigagkgpfpfaaDoor.Ext

/- A short number with a sign has as many bytes as seven bits each make of it and its sign. -/
import Derived.Test.YtmfipofoeigleaaPLebx13
import Derived.Test.YtmfipofoeigleaaLebSpec2
import Derived.OpenShut
set_option linter.unusedVariables false
set_option linter.unusedSimpArgs false
namespace Go.Proofs.Ytmfipofoeigleaa.Pure
open Go.RowKit Go.Proofs.Ytmfipofoeigleaa.PLeb Go.Proofs.YtmfipofoeigleaaW.PrintWords Go.Proofs.YtmfipofoeigleaaW.PrintLast Go.Proofs.YtmfipofoeigleaaW.PrintMore Go.Proofs.Ytmfipofoeigleaa.Ext

theorem works_ok : L1_works.f = some true := rfl
theorem bytes_of {l : List Int} (h : ∀ x ∈ l, (Lit.int .u8 x).wf = true) : ∀ x ∈ l, 0 ≤ x ∧ x ≤ 255 := fun x hx => bounds_u8 (h x hx)
theorem sizes_l0 (a0 : Int) (h0 : -9223372036854775808 ≤ a0) (h1 : a0 ≤ 9223372036854775807) (d : Nat) : ∀ (k : Nat) (x3 x4 : Int), (sb x4).length = d → x3 + d = 1 + (sb a0).length → 1 ≤ x3 → d + 10 ≤ k → L1_LebSizes.l0 k a0 x3 x4 = some true := by
  have hl := sb_len10 a0 h0 h1
  induction d with
  | zero => intro k x3 x4 hd; have := (sb_form x4).pos; omega
  | succ d ih =>
    intro k x3 x4 hd he h3 hk
    obtain ⟨k, rfl⟩ : ∃ q, k = q + 1 := ⟨k - 1, by omega⟩
    simp only [L1_LebSizes.l0]
    rw [sb] at hd
    by_cases h : -64 ≤ x4 ∧ x4 < 64
    · rw [if_pos h] at hd
      have : d = 0 := by simpa using hd.symm
      subst this
      rw [if_neg (by omega), if_neg (by omega), S_f k a0 (by omega) h0 h1, Option.bind_some, if_pos (by omega), decide_eq_true (by omega)]
    · rw [if_neg h, List.length_cons] at hd
      have e : L1_LebSizes.l0 k a0 (wrap64 (x3 + 1)) (x4 / 128) = some true := by
        rw [wrap64_id _ (by omega) (by omega)]
        exact ih k (x3 + 1) (x4 / 128) (by omega) (by omega) (by omega) (by omega)
      by_cases h2 : x4 < -64
      · rw [if_pos h2, e]
      · rw [if_neg h2, if_pos (by omega), e]
theorem LebSizes : L1_LebSizes.Pure := by
  intro a0 hw
  have hb := bounds_i64 hw
  have hl := sb_len10 a0 hb.1 hb.2
  refine ⟨20, ?_⟩
  unfold L1_LebSizes.f
  rw [works_ok, Option.bind_some, if_pos rfl]
  exact sizes_l0 a0 hb.1 hb.2 (sb a0).length 20 1 a0 rfl (by omega) (by omega) (by omega)
end Go.Proofs.Ytmfipofoeigleaa.Pure

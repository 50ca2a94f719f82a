/- U, TakeU, S and TakeS answer as the chapter says. -/
import Derived.Test.YtmfipofoeigleaaPLebx8
import Derived.Test.YtmfipofoeigleaaLebSpec3
import Derived.OpenShut
set_option linter.unusedVariables false
set_option linter.unusedSimpArgs false
namespace Go.Proofs.Ytmfipofoeigleaa.Pure
open Go.RowKit Go.Proofs.Ytmfipofoeigleaa.PLeb Go.Proofs.YtmfipofoeigleaaW.PrintWords Go.Proofs.YtmfipofoeigleaaW.PrintLast Go.Proofs.YtmfipofoeigleaaW.PrintMore Go.Proofs.Ytmfipofoeigleaa.Ext

theorem works_ok : L1_works.f = some true := rfl
theorem bytes_of {l : List Int} (h : ∀ x ∈ l, (Lit.int .u8 x).wf = true) : ∀ x ∈ l, 0 ≤ x ∧ x ≤ 255 := fun x hx => bounds_u8 (h x hx)
theorem spoil_l0 (d : Nat) : ∀ (k : Nat) (l : List Int) (i : Int), 0 ≤ i → (l.length : Int) - i ≤ d → l.length ≤ 140737488355328 → d < k → ∃ r, L1_spoil.l0 k l i = some r := by
  induction d with
  | zero =>
    intro k l i h0 hd hl hk
    obtain ⟨k, rfl⟩ : ∃ m, k = m + 1 := ⟨k - 1, by omega⟩
    simp only [L1_spoil.l0]
    rw [if_neg (by omega)]; exact ⟨_, rfl⟩
  | succ d ih =>
    intro k l i h0 hd hl hk
    obtain ⟨k, rfl⟩ : ∃ m, k = m + 1 := ⟨k - 1, by omega⟩
    simp only [L1_spoil.l0]
    by_cases h : i < (l.length : Int)
    · rw [if_pos h, if_pos h0, wrap64_id _ (by omega) (by omega)]
      exact ih k _ (i + 1) (by omega) (by rw [List.length_set]; omega) (by rw [List.length_set]; exact hl) (by omega)
    · rw [if_neg h]; exact ⟨_, rfl⟩
theorem spoil_f (l : List Int) (k : Nat) (hl : l.length ≤ 140737488355328) (hk : l.length < k) : ∃ r, L1_spoil.f k l = some r :=
  spoil_l0 l.length k l 0 (by omega) (by omega) hl hk
theorem U_both (k : Nat) (a0 : Int) (hk : 10 ≤ k) : ∃ b, b.1.length ≤ 8 ∧ ∀ d, leb_U.f (k + d) a0 = some b ∧ R1_U.f (k + d) a0 = some b := by
  by_cases h : a0 < 0 ∨ 9007199254740991 < a0
  · exact ⟨([], 9), by simp, fun d => ⟨U_bad _ _ (by omega) h, R1_U_bad _ _ (by omega) h⟩⟩
  · exact ⟨(ub a0.toNat, 0), ub_len8 _ (by omega), fun d => ⟨U_f _ _ (by omega) (by omega) (by omega), R1_U_f _ _ (by omega) (by omega) (by omega)⟩⟩
theorem takeU_rest (l : List Int) : (takeU l).2.1.length ≤ l.length := by
  unfold takeU
  repeat' split
  all_goals simp
theorem takeS_any (l : List Int) (hb : ∀ x ∈ l, 0 ≤ x ∧ x ≤ 255) (hm : l.length ≤ Big47) (k : Nat) (hk : 1 ≤ k) : ∃ b : Int × List Int × Int, leb_TakeS.f k l = some b ∧ b.2.1.length ≤ l.length := by
  rcases TakeS_inv k l hk hb hm with ⟨p, r, rfl, hf, hl, hbd, e⟩ | e | e
  · exact ⟨_, e, by simp⟩
  · exact ⟨_, e, by simp⟩
  · exact ⟨_, e, by simp⟩
theorem LebShort : L1_LebShort.Pure := by
  intro a0 l hw0 _ hm hw
  have hb0 := bounds_i64 hw0
  have hb := bytes_of hw
  have hB : Big47 = 140737488355300 := rfl
  have hm : l.length ≤ 140737488351232 := by omega
  refine ⟨l.length + 31, ?_⟩
  obtain ⟨u, hul, hU⟩ := U_both (l.length + 30) a0 (by omega)
  obtain ⟨b, hS, hbl⟩ := takeS_any l hb (by omega) (l.length + 31) (by omega)
  have hR : R1_TakeS.f (l.length + 31) l = some b := by rw [R1_TakeS_f _ l (by omega) hb (by omega), hS]
  have hRS : R1_S.f a0 = some (sb a0) := by unfold R1_S.f; rw [if_pos hb0]
  have hSl := sb_len10 a0 hb0.1 hb0.2
  have hrest := takeU_rest l
  have hEq : ∀ (k : Nat) (x : List Int), l.length + 20 ≤ k → x.length ≤ l.length + 10 → R0_EqBytes.f k x x = some true := by
    intro k x hk hx; rw [Eq_f x x k (by omega) (by omega), decide_eq_true rfl]
  unfold L1_LebShort.f
  rw [Copy_f l (by omega), Option.bind_some, (hU 1).1, Option.bind_some, (hU 1).2, Option.bind_some, S_f _ a0 (by omega) hb0.1 hb0.2, Option.bind_some, TakeU_f _ l (by omega) hb (by omega), Option.bind_some,
    R1_TakeU_f _ l (by omega) hb (by omega), Option.bind_some, hS, Option.bind_some, hR, Option.bind_some, hEq _ _ (by omega) (by omega), hRS]
  simp only [Option.bind_some, if_true, hEq (l.length + 31) (sb a0) (by omega) (by omega), hEq (l.length + 31) (takeU l).2.1 (by omega) (by omega), hEq (l.length + 31) b.2.1 (by omega) (by omega)]
  rw [show (b.2.2 != b.2.2) = false by simp]
  simp only [L1_LebShort.j0]
  rw [if_neg (by simp)]
  obtain ⟨r1, h1⟩ := spoil_f u.1 (l.length + 30) (by omega) (by omega)
  obtain ⟨r2, h2⟩ := spoil_f (sb a0) (l.length + 30) (by omega) (by omega)
  obtain ⟨r3, h3⟩ := spoil_f (takeU l).2.1 (l.length + 30) (by omega) (by omega)
  obtain ⟨r4, h4⟩ := spoil_f b.2.1 (l.length + 30) (by omega) (by omega)
  have hU0 := (hU 0).1
  rw [Nat.add_zero] at hU0
  rw [h1, h2, h3, h4, hU0, hRS, S_f _ a0 (by omega) hb0.1 hb0.2]
  simp only [Option.bind_some, hEq (l.length + 30) (sb a0) (by omega) (by omega), hEq (l.length + 30) u.1 (by omega) (by omega), hEq (l.length + 30) l (by omega) (by omega), if_true]
  rfl
end Go.Proofs.Ytmfipofoeigleaa.Pure

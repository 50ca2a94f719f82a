/- Big, TakeBig and TakeBigS answer as the chapter says. -/
import Derived.Test.YtmfipofoeigleaaPLebx9
import Derived.Test.YtmfipofoeigleaaLebSpec2
import Derived.OpenShut
set_option linter.unusedVariables false
set_option linter.unusedSimpArgs false
namespace Go.Proofs.Ytmfipofoeigleaa.Pure
open Go.RowKit Go.Proofs.Ytmfipofoeigleaa.PLeb Go.Proofs.YtmfipofoeigleaaW.PrintWords Go.Proofs.YtmfipofoeigleaaW.PrintLast Go.Proofs.YtmfipofoeigleaaW.PrintMore Go.Proofs.Ytmfipofoeigleaa.Ext

theorem works_ok : L1_works.f = some true := rfl
theorem bytes_of {l : List Int} (h : ∀ x ∈ l, (Lit.int .u8 x).wf = true) : ∀ x ∈ l, 0 ≤ x ∧ x ≤ 255 := fun x hx => bounds_u8 (h x hx)
theorem spoil_l0 (d : Nat) : ∀ (k : Nat) (l : List Int) (i : Int), 0 ≤ i → (l.length : Int) - i ≤ d → l.length ≤ 140737488355328 → d < k → ∃ r, L1_spoil.l0 k l i = some r := by
  induction d with
  | zero =>
    intro k l i h0 hd hl hk
    obtain ⟨k, rfl⟩ : ∃ m, k = m + 1 := ⟨k - 1, by omega⟩
    simp only [L1_spoil.l0]
    rw [if_neg (by omega)]; exact ⟨_, rfl⟩
  | succ d ih =>
    intro k l i h0 hd hl hk
    obtain ⟨k, rfl⟩ : ∃ m, k = m + 1 := ⟨k - 1, by omega⟩
    simp only [L1_spoil.l0]
    by_cases h : i < (l.length : Int)
    · rw [if_pos h, if_pos h0, wrap64_id _ (by omega) (by omega)]
      exact ih k _ (i + 1) (by omega) (by rw [List.length_set]; omega) (by rw [List.length_set]; exact hl) (by omega)
    · rw [if_neg h]; exact ⟨_, rfl⟩
theorem spoil_f (l : List Int) (k : Nat) (hl : l.length ≤ 140737488355328) (hk : l.length < k) : ∃ r, L1_spoil.f k l = some r :=
  spoil_l0 l.length k l 0 (by omega) (by omega) hl hk
theorem rest_len (l : List Int) (s : Int) : (takeBig l s).2.1.length ≤ l.length ∧ (takeBigS l s).2.1.length ≤ l.length := by
  unfold takeBig takeBigS
  constructor <;> (repeat' split) <;> simp
theorem LebBig : L1_LebBig.Pure := by
  intro a0 a1 l hw0 hw1 _ hm hw
  have hb0 := bounds_i64 hw0
  have hb := bytes_of hw
  have hB : Big47 = 140737488355300 := rfl
  have hm : l.length ≤ 140737488351232 := by omega
  refine ⟨l.length + 30, ?_⟩
  have hr := rest_len l a1
  have hbl : (bigF a0 a1).1.length ≤ 8 := by
    unfold bigF
    split
    · simp
    · split
      · simp
      · simp only [bigL_len]; omega
  unfold L1_LebBig.f
  rw [Copy_f l (by omega), Option.bind_some]
  unfold leb_Big.f
  rw [Option.bind_some, R1_Big_f _ a0 a1 (by omega) hb0.1 hb0.2, Option.bind_some, TakeBig_f l a1 hb (by omega), Option.bind_some, R1_TakeBig_f _ l a1 (by omega) hb (by omega), Option.bind_some,
    TakeBigS_f l a1 hb (by omega), Option.bind_some, R1_TakeBigS_f _ l a1 (by omega) hb (by omega), Option.bind_some,
    Eq_f _ _ _ (by omega) (by omega), Eq_f _ _ _ (by omega) (by omega), Eq_f _ _ _ (by omega) (by omega)]
  simp only [Option.bind_some, decide_true, if_true]
  rw [show ((takeBigS l a1).2.2 != (takeBigS l a1).2.2) = false by simp]
  simp only [L1_LebBig.j0]
  rw [if_neg (by simp)]
  obtain ⟨r1, h1⟩ := spoil_f (takeBig l a1).2.1 (l.length + 29) (by omega) (by omega)
  obtain ⟨r2, h2⟩ := spoil_f (takeBigS l a1).2.1 (l.length + 29) (by omega) (by omega)
  rw [h1, h2, Option.bind_some, Option.bind_some, Eq_f _ _ _ (by omega) (by omega), Option.bind_some, decide_eq_true rfl, if_pos rfl, works_ok]; rfl
end Go.Proofs.Ytmfipofoeigleaa.Pure

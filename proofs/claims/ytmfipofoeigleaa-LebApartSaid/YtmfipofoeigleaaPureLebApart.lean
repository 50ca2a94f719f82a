/- What stands for a number is not the start of what stands for another one. -/
import Derived.Test.YtmfipofoeigleaaPLebx15
import Derived.Test.YtmfipofoeigleaaLebSpec2
import Derived.OpenShut
set_option linter.unusedVariables false
set_option linter.unusedSimpArgs false
namespace Go.Proofs.Ytmfipofoeigleaa.Pure
open Go.RowKit Go.Proofs.Ytmfipofoeigleaa.PLeb Go.Proofs.YtmfipofoeigleaaW.PrintWords Go.Proofs.YtmfipofoeigleaaW.PrintLast Go.Proofs.YtmfipofoeigleaaW.PrintMore Go.Proofs.Ytmfipofoeigleaa.Ext

theorem works_ok : L1_works.f = some true := rfl
theorem bytes_of {l : List Int} (h : ∀ x ∈ l, (Lit.int .u8 x).wf = true) : ∀ x ∈ l, 0 ≤ x ∧ x ≤ 255 := fun x hx => bounds_u8 (h x hx)
theorem pre_iff {p q : List Int} (hp : Go.Proofs.Ytmfipofoeigleaa.Ext.Form p) (hq : Go.Proofs.Ytmfipofoeigleaa.Ext.Form q) : decide (p.take q.length = q) = decide (p = q) := by
  rw [decide_eq_decide]
  constructor
  · intro h
    have e : p ++ [] = q ++ p.drop q.length := by
      conv => rhs; rw [← h]
      rw [List.append_nil]
      have : (p.take q.length).length = q.length := by rw [h]
      rw [this]
      exact (List.take_append_drop _ _).symm
    exact (hp.unique hq e).1
  · intro h; rw [h, List.take_length]
theorem pre_f {p q : List Int} (hp : Go.Proofs.Ytmfipofoeigleaa.Ext.Form p) (hq : Go.Proofs.Ytmfipofoeigleaa.Ext.Form q) : bytes_HasPrefix.f p q = some (decide (p = q)) := by
  unfold bytes_HasPrefix.f
  rw [if_pos ⟨hp.bytes, hq.bytes⟩, pre_iff hp hq]
theorem LebApart : L1_LebApart.Pure := by
  intro a0 a1 hw0 hw1
  have hb0 := bounds_i64 hw0
  have hb1 := bounds_i64 hw1
  refine ⟨20, ?_⟩
  unfold L1_LebApart.f
  rw [works_ok, Option.bind_some, if_pos rfl, Bring_f a0 _ hb0 (by omega) (by omega), Bring_f a1 _ hb1 (by omega) (by omega)]
  simp only [Option.bind_some]
  have x0 : 0 ≤ a0 % 9007199254740992 ∧ a0 % 9007199254740992 < 9007199254740992 := by omega
  have y0 : 0 ≤ a1 % 9007199254740992 ∧ a1 % 9007199254740992 < 9007199254740992 := by omega
  generalize a0 % 9007199254740992 = x at *
  generalize a1 % 9007199254740992 = y at *
  rw [U_f 20 x (by omega) (by omega) (by omega), U_f 20 y (by omega) (by omega) (by omega)]
  simp only [Option.bind_some]
  rw [if_pos trivial, if_pos trivial, pre_f (ub_form _) (ub_form _), Option.bind_some]
  have e1 : decide (ub x.toNat = ub y.toNat) = (x == y) := by
    rw [Bool.eq_iff_iff, beq_iff_eq, decide_eq_true_iff]
    constructor
    · intro h
      have := congrArg val h
      rw [ub_val, ub_val] at this; omega
    · rintro rfl; rfl
  have e2 : decide (sb a0 = sb a1) = (a0 == a1) := by
    rw [Bool.eq_iff_iff, beq_iff_eq, decide_eq_true_iff]
    constructor
    · intro h
      have := congrArg sval h
      rwa [sb_val, sb_val] at this
    · rintro rfl; rfl
  rw [e1, if_pos (by simp), S_f 20 a0 (by omega) hb0.1 hb0.2, S_f 20 a1 (by omega) hb1.1 hb1.2]
  simp only [Option.bind_some]
  rw [pre_f (sb_form _) (sb_form _), Option.bind_some, e2]; simp
end Go.Proofs.Ytmfipofoeigleaa.Pure

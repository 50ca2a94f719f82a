/- What can be read in a short way is written so. -/
import Derived.Test.YtmfipofoeigleaaPLebx11
import Derived.Test.YtmfipofoeigleaaLebSpec2
import Derived.OpenShut
set_option linter.unusedVariables false
set_option linter.unusedSimpArgs false
namespace Go.Proofs.Ytmfipofoeigleaa.Pure
open Go.RowKit Go.Proofs.Ytmfipofoeigleaa.PLeb Go.Proofs.YtmfipofoeigleaaW.PrintWords Go.Proofs.YtmfipofoeigleaaW.PrintLast Go.Proofs.YtmfipofoeigleaaW.PrintMore Go.Proofs.Ytmfipofoeigleaa.Ext

theorem works_ok : L1_works.f = some true := rfl
theorem bytes_of {l : List Int} (h : ∀ x ∈ l, (Lit.int .u8 x).wf = true) : ∀ x ∈ l, 0 ≤ x ∧ x ≤ 255 := fun x hx => bounds_u8 (h x hx)
theorem val_in (p : List Int) (h : Go.Proofs.Ytmfipofoeigleaa.Ext.Form p) (hl : p.length ≤ 10) (hbd : ¬ BadS p) : -9223372036854775808 ≤ sval p ∧ sval p ≤ 9223372036854775807 := by
  have hv0 := h.val_nn
  have hvl := h.val_lt
  have hs := h.sval_val
  have hp := h.pos
  have hla := h.last
  obtain ⟨low, l0, l1, ev⟩ := val_split h
  by_cases h9 : p.length ≤ 9
  · have : (128 : Int) ^ p.length ≤ 128 ^ 9 := by rw [pow7, pow7]; exact pow_le2 _ _ (by omega)
    have e9 : (128 : Int) ^ 9 = 9223372036854775808 := by decide
    split at hs <;> omega
  · have h10 : p.length = 10 := by omega
    have hn : lastOf p = 0 ∨ lastOf p = 127 := by
      unfold BadS at hbd
      by_cases g : lastOf p = 0
      · exact .inl g
      · refine .inr (Classical.byContradiction fun g2 => hbd (.inr ⟨h10, g, g2⟩))
    rw [h10] at ev l1 hs
    have e9 : (128 : Int) ^ (10 - 1) = 9223372036854775808 := by decide
    have e10 : (128 : Int) ^ 10 = 1180591620717411303424 := by decide
    rw [e9] at ev l1
    rw [e10] at hs
    rcases hn with hn | hn <;> rw [hn] at ev hs
    · rw [if_pos (by omega)] at hs; omega
    · rw [if_neg (by omega)] at hs; omega
theorem again_j0 (k : Nat) (l : List Int) (x3 : Int) (x4 : List Int) (x5 : Int) (hk : l.length + 20 ≤ k) (hb : ∀ x ∈ l, 0 ≤ x ∧ x ≤ 255) (hm : l.length ≤ Big47) (b : Int × List Int × Int) (hS : leb_TakeS.f k l = some b) (hU : x5 = 0 ∨ x3 = 0 ∧ x4 = []) : L1_LebAgain.j0 (k + 1) l x3 x4 x5 b.1 b.2.1 b.2.2 = some true := by
  have hB : Big47 = 140737488355300 := rfl
  simp only [L1_LebAgain.j0]
  have bad : ∀ e : Int, e = 3 ∨ e = 4 → b = (0, [], e) → (if b.2.2 = 0 then (leb_S.f k b.1).bind fun t489 => if t489.length + b.2.1.length < 140737488355328 then (R0_EqBytes.f k (t489 ++ b.2.1) l).bind fun t495 => some t495 else none
      else if b.1 = 0 then if (b.2.1.length : Int) = 0 then if b.2.2 = 3 then if x5 = 0 then some true else if x3 = 0 then some ((x4.length : Int) == 0) else some false
        else if b.2.2 = 4 then if x5 = 0 then some true else if x3 = 0 then some ((x4.length : Int) == 0) else some false else some false else some false else some false) = some true := by
    rintro e he rfl
    rcases he with rfl | rfl <;> rcases hU with h | ⟨rfl, rfl⟩ <;> simp_all
  rcases TakeS_inv k l (by omega) hb hm with ⟨p, r, rfl, hf, hl, hbd, e⟩ | e | e
  · rw [hS] at e
    obtain rfl := Option.some.inj e
    have hv := val_in p hf hl hbd
    have hle : Least p := Classical.byContradiction fun h => hbd (.inl h)
    simp only [if_true]
    rw [S_f k _ (by omega) hv.1 hv.2, Option.bind_some, hf.sb_of hle, ← List.length_append, if_pos (by omega), Eq_f _ _ k hm (by omega), Option.bind_some]; simp
  · rw [hS] at e
    exact bad 4 (.inr rfl) (Option.some.inj e)
  · rw [hS] at e
    exact bad 3 (.inl rfl) (Option.some.inj e)
theorem LebAgain : L1_LebAgain.Pure := by
  intro l _ hm hw
  have hb := bytes_of hw
  have hB : Big47 = 140737488355300 := rfl
  have hm : l.length ≤ Big47 := by omega
  refine ⟨l.length + 21, ?_⟩
  unfold L1_LebAgain.f
  rw [works_ok, Option.bind_some, if_pos rfl, TakeU_f _ l (by omega) hb hm, Option.bind_some]
  have hS : ∃ b, leb_TakeS.f (l.length + 20) l = some b ∧ leb_TakeS.f (l.length + 20 + 1) l = some b := by
    rcases rowL_inv l hb 10 0 0 with ⟨p, r, rfl, hf, hl, e⟩ | ⟨e, _⟩ | ⟨e, _⟩
    · by_cases hbd : BadS p
      · exact ⟨_, (TakeS_form _ hf r (by omega) hb hm hl).1 hbd, (TakeS_form _ hf r (by omega) hb hm hl).1 hbd⟩
      · exact ⟨_, (TakeS_form _ hf r (by omega) hb hm hl).2 hbd, (TakeS_form _ hf r (by omega) hb hm hl).2 hbd⟩
    · exact ⟨(0, [], 4), by unfold leb_TakeS.f; rw [row10 l hb, Option.bind_some, e]; rfl, by unfold leb_TakeS.f; rw [row10 l hb, Option.bind_some, e]; rfl⟩
    · exact ⟨(0, [], 3), by unfold leb_TakeS.f; rw [row10 l hb, Option.bind_some, e]; rfl, by unfold leb_TakeS.f; rw [row10 l hb, Option.bind_some, e]; rfl⟩
  obtain ⟨b, hS, hS'⟩ := hS
  rw [hS', Option.bind_some]
  rcases takeU_inv l hb with ⟨p, r, rfl, hf, hl, h2, hv, e⟩ | e | e
  · rw [e]
    simp only [if_true]
    rw [U_f _ _ (by omega) hf.val_nn hv, Option.bind_some, hf.ub_of h2]
    simp only [if_true]
    rw [← List.length_append, if_pos (by omega), Eq_f _ _ _ hm (by omega), Option.bind_some, decide_eq_true rfl, if_pos rfl]
    exact again_j0 _ _ _ _ _ (by omega) hb hm b hS (.inl rfl)
  · rw [e, if_neg (by simp)]
    exact again_j0 _ _ _ _ _ (by omega) hb hm b hS (.inr ⟨rfl, rfl⟩)
  · rw [e, if_neg (by simp)]
    exact again_j0 _ _ _ _ _ (by omega) hb hm b hS (.inr ⟨rfl, rfl⟩)
end Go.Proofs.Ytmfipofoeigleaa.Pure

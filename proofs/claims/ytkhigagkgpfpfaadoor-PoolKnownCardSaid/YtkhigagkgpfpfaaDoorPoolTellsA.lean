/- What pool's Text and ClassName answer, in plain words; two like lists are the same. -/
import Derived.Test.YtkhigagkgpfpfaaDoorPoolParse
import Derived.Test.YtkhigagkgpfpfaaDoorPoolBytes2
set_option linter.unusedVariables false
set_option linter.unusedSimpArgs false
namespace Go.Proofs.YtkhigagkgpfpfaaDoor.Ext
open Go.RowKit Go.Lib Go.Proofs.YtkhigagkgpfpfaaDoorW.PrintWords Go.Proofs.YtkhigagkgpfpfaaDoorW.PrintLast Go.Proofs.YtkhigagkgpfpfaaDoorW.PrintMore Go.Proofs.YtkhigagkgpfpfaaDoor.PLeb
attribute [local go_sem] max2_int min2_int max_two min_two max_three min_three max_four min_four

def textP (l : List S35) (i : Int) : ByteArray × Int := if isB l i 1 = true then ((rd_T35 l i).f1, 0) else (E0, 40)
def classP (l : List S35) (i : Int) : ByteArray × Int := if isB l i 4 = true then textP l (rd_T35 l i).f3 else (E0, 40)
theorem poolText_f (l : List S35) (i : Int) : pool_Text.f l i = some (textP l i) := by
  unfold pool_Text.f textP
  rw [is_f, Option.bind_some]
  by_cases h : isB l i 1 = true
  · have hp := isB_pos h
    rw [if_pos h, if_pos (by omega), if_pos hp.2.1, if_pos h]
  · rw [if_neg h, if_neg h]; rfl
theorem poolClass_f (l : List S35) (i : Int) : pool_ClassName.f l i = some (classP l i) := by
  unfold pool_ClassName.f classP
  rw [is_f, Option.bind_some]
  by_cases h : isB l i 4 = true
  · have hp := isB_pos h
    rw [if_pos h, if_pos (by omega), if_pos hp.2.1, if_pos h, poolText_f, Option.bind_some]
  · rw [if_neg h, if_neg h]; rfl
theorem same_l0 (l : List S35) (hm : l.length ≤ 4000000000000) (d : Nat) : ∀ (k : Nat) (i : Int), 0 ≤ i → i ≤ l.length → (l.length : Int) - i = d → d < k → R4_Same.l0 k l l i = some true := by
  induction d with
  | zero =>
    intro k i h0 h1 h2 h3
    obtain ⟨k, rfl⟩ : ∃ q, k = q + 1 := ⟨k - 1, by omega⟩
    unfold R4_Same.l0
    rw [if_neg (by omega)]
  | succ d ih =>
    intro k i h0 h1 h2 h3
    obtain ⟨k, rfl⟩ : ∃ q, k = q + 1 := ⟨k - 1, by omega⟩
    unfold R4_Same.l0
    rw [if_pos (by omega), if_pos h0, if_pos (by omega), if_neg (by simp), wrap64_id _ (by omega) (by omega)]
    exact ih k (i + 1) (by omega) (by omega) (by omega) (by omega)
theorem Same_f (l : List S35) (hm : l.length ≤ 4000000000000) : R4_Same.f (l.length + 1) l l = some true := by
  unfold R4_Same.f
  rw [if_pos rfl]
  exact same_l0 l hm l.length _ 0 (by omega) (by omega) (by omega) (by omega)
section
variable {w : World} {l : List S35} {A A1 : Option Addr} {n c n1 c1 : Nat}
theorem same_calls (hr : Kd.C k35 w A l.length l) (hn : l.length = n) (hc : n ≤ c) (hr1 : Kd.C k35 w A1 l.length l) (hn1 : l.length = n1) (hc1 : n1 ≤ c1) (hm : l.length ≤ 4000000000000) :
    Calls Tryd.prog 15 #[.slice A n c, .slice A1 n1 c1] w fun e w' => e = .returned (.bool true) ∧ Below w.heap.size w w' := by
  subst hn; subst hn1
  exact (R4_Same.calls (l.length + 1) A c l A1 c1 l true w hr hc hr1 hc1 (Same_f l hm)).mono fun e w' ⟨h1, h2⟩ => ⟨h1, h2.below⟩
theorem text_c {i : Int} {t : ByteArray} {e : Int} (hv : textP l i = (t, e)) (hr : Kd.C k35 w A l.length l) (hn : l.length = n) (hc : n ≤ c) :
    Calls Tryd.prog 21 #[.slice A n c, .int .i64 i] w fun y w' => y = .returned (.tuple #[.string t, .int .i64 e]) ∧ Below w.heap.size w w' := by
  subst hn; exact (pool_Text.calls A c l i t e w hr hc (by rw [poolText_f, hv])).mono fun e w' ⟨h1, h2⟩ => ⟨h1, h2.below⟩
theorem class_c {i : Int} {t : ByteArray} {e : Int} (hv : classP l i = (t, e)) (hr : Kd.C k35 w A l.length l) (hn : l.length = n) (hc : n ≤ c) :
    Calls Tryd.prog 22 #[.slice A n c, .int .i64 i] w fun y w' => y = .returned (.tuple #[.string t, .int .i64 e]) ∧ Below w.heap.size w w' := by
  subst hn; exact (pool_ClassName.calls A c l i t e w hr hc (by rw [poolClass_f, hv])).mono fun e w' ⟨h1, h2⟩ => ⟨h1, h2.below⟩
end
end Go.Proofs.YtkhigagkgpfpfaaDoor.Ext

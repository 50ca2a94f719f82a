/- What pool's Text, Num, ClassName and Ref answer, in plain words; the reference's the same; two like lists are the same. -/
import Derived.Test.YtkhigagkgpfpfaaDoorPoolTellsA
import Derived.Test.YtkhigagkgpfpfaaDoorPLebx6
import Derived.Test.YtkhigagkgpfpfaaDoorPLebx7
set_option linter.unusedVariables false
set_option linter.unusedSimpArgs false
namespace Go.Proofs.YtkhigagkgpfpfaaDoor.Ext
open Go.RowKit Go.Lib Go.Proofs.YtkhigagkgpfpfaaDoorW.PrintWords Go.Proofs.YtkhigagkgpfpfaaDoorW.PrintLast Go.Proofs.YtkhigagkgpfpfaaDoorW.PrintMore Go.Proofs.YtkhigagkgpfpfaaDoor.PLeb
attribute [local go_sem] max2_int min2_int max_two min_two max_three min_three max_four min_four

def numP (l : List S35) (i k : Int) : Int × Int := if (k = 2 ∨ k = 3) ∧ isB l i k = true then ((rd_T35 l i).f2, 0) else (0, 40)
def refP (l : List S35) (i k : Int) : ByteArray × ByteArray × ByteArray × Int :=
  if (k = 5 ∨ k = 6) ∧ isB l i k = true then
    (if (classP l (rd_T35 l i).f3).2 = 0 ∧ (textP l (rd_T35 l i).f4).2 = 0 ∧ (textP l (rd_T35 l i).f5).2 = 0 then ((classP l (rd_T35 l i).f3).1, (textP l (rd_T35 l i).f4).1, (textP l (rd_T35 l i).f5).1, 0) else (E0, E0, E0, 40))
  else (E0, E0, E0, 40)
theorem refText_f (l : List S35) (i : Int) : R4_Text.f l i = some (textP l i) := by
  unfold R4_Text.f textP
  rw [kind_f, Option.bind_some]
  by_cases h : isB l i 1 = true
  · have hp := isB_pos h
    rw [if_pos h, if_pos (by omega), if_pos hp.2.1, if_pos h]
  · rw [if_neg h, if_neg h]; rfl
theorem num_of (l : List S35) (i k : Int) (hk : k = 2 ∨ k = 3) : (if isB l i k = true then (if 0 ≤ i then (if i < (l.length : Int) then some ((rd_T35 l i).f2, (0 : Int)) else none) else none) else some (0, 40)) = some (numP l i k) := by
  unfold numP
  by_cases h : isB l i k = true
  · have hp := isB_pos h
    rw [if_pos h, if_pos (by omega), if_pos hp.2.1, if_pos ⟨hk, h⟩]
  · rw [if_neg h, if_neg (fun x => h x.2)]
theorem poolNum_f (l : List S35) (i k : Int) : pool_Num.f l i k = some (numP l i k) := by
  unfold pool_Num.f
  by_cases h2 : k = 2
  · rw [if_pos h2, is_f, Option.bind_some]; exact num_of l i k (.inl h2)
  · rw [if_neg h2]
    by_cases h3 : k = 3
    · rw [if_pos h3, is_f, Option.bind_some]; exact num_of l i k (.inr h3)
    · rw [if_neg h3]; unfold numP; rw [if_neg (by omega)]
theorem refNum_f (l : List S35) (i k : Int) : R4_Num.f l i k = some (numP l i k) := by
  unfold R4_Num.f
  by_cases h2 : k = 2
  · rw [if_pos h2, kind_f, Option.bind_some]; exact num_of l i k (.inl h2)
  · rw [if_neg h2]
    by_cases h3 : k = 3
    · rw [if_pos h3, kind_f, Option.bind_some]; exact num_of l i k (.inr h3)
    · rw [if_neg h3]; unfold numP; rw [if_neg (by omega)]
theorem refClass_f (l : List S35) (i : Int) : R4_ClassName.f l i = some (classP l i) := by
  unfold R4_ClassName.f classP
  rw [kind_f, Option.bind_some]
  by_cases h : isB l i 4 = true
  · have hp := isB_pos h
    rw [if_pos h, if_pos (by omega), if_pos hp.2.1, if_pos h, refText_f, Option.bind_some]
  · rw [if_neg h, if_neg h]; rfl
theorem ref_of (l : List S35) (i k : Int) (hk : k = 5 ∨ k = 6) (h : isB l i k = true) (a b c : ByteArray × Int) (ha : classP l (rd_T35 l i).f3 = a) (hb : textP l (rd_T35 l i).f4 = b) (hc : textP l (rd_T35 l i).f5 = c) :
    (if a.2 = 0 then (if b.2 = 0 then (if c.2 = 0 then some (a.1, b.1, c.1, (0 : Int)) else some ((⟨#[]⟩ : ByteArray), (⟨#[]⟩ : ByteArray), (⟨#[]⟩ : ByteArray), 40)) else some ((⟨#[]⟩ : ByteArray), (⟨#[]⟩ : ByteArray), (⟨#[]⟩ : ByteArray), 40)) else some ((⟨#[]⟩ : ByteArray), (⟨#[]⟩ : ByteArray), (⟨#[]⟩ : ByteArray), 40)) = some (refP l i k) := by
  have hR : refP l i k = if a.2 = 0 ∧ b.2 = 0 ∧ c.2 = 0 then (a.1, b.1, c.1, 0) else (E0, E0, E0, 40) := by unfold refP; rw [if_pos ⟨hk, h⟩, ha, hb, hc]
  rw [hR]
  by_cases h1 : a.2 = 0 <;> by_cases h2 : b.2 = 0 <;> by_cases h3 : c.2 = 0 <;> simp [h1, h2, h3, E0]
theorem refP_bad (l : List S35) (i k : Int) (h : ¬ ((k = 5 ∨ k = 6) ∧ isB l i k = true)) : refP l i k = (E0, E0, E0, 40) := by unfold refP; rw [if_neg h]
theorem poolRef_j (n : Nat) (l : List S35) (i k : Int) (hk : k = 5 ∨ k = 6) : pool_Ref.j0 (n + 1) l i (!isB l i k) = some (refP l i k) := by
  simp only [pool_Ref.j0]
  by_cases h : isB l i k = true
  · have hp := isB_pos h
    rw [if_neg (show ¬ ((!isB l i k) = true) by rw [h]; decide), if_pos (by omega), if_pos hp.2.1, poolClass_f, Option.bind_some, poolText_f, Option.bind_some, poolText_f, Option.bind_some]
    exact ref_of l i k hk h _ _ _ rfl rfl rfl
  · rw [if_pos (show (!isB l i k) = true by rw [Bool.eq_false_iff.2 h]; rfl), refP_bad l i k (fun x => h x.2)]; rfl
theorem poolRef_f (n : Nat) (l : List S35) (i k : Int) : pool_Ref.f (n + 1) l i k = some (refP l i k) := by
  unfold pool_Ref.f
  by_cases h2 : k = 5
  · rw [if_pos h2, is_f, Option.bind_some]; exact poolRef_j n l i k (.inl h2)
  · rw [if_neg h2]
    by_cases h3 : k = 6
    · rw [if_pos h3, is_f, Option.bind_some]; exact poolRef_j n l i k (.inr h3)
    · rw [if_neg h3, refP_bad l i k (by omega)]; simp [pool_Ref.j0, E0]
theorem refRef_j (n : Nat) (l : List S35) (i k : Int) (hk : k = 5 ∨ k = 6) : R4_Ref.j0 (n + 1) l i (!isB l i k) = some (refP l i k) := by
  simp only [R4_Ref.j0]
  by_cases h : isB l i k = true
  · have hp := isB_pos h
    rw [if_neg (show ¬ ((!isB l i k) = true) by rw [h]; decide), if_pos (by omega), if_pos hp.2.1, refClass_f, Option.bind_some, refText_f, Option.bind_some, refText_f, Option.bind_some]
    exact ref_of l i k hk h _ _ _ rfl rfl rfl
  · rw [if_pos (show (!isB l i k) = true by rw [Bool.eq_false_iff.2 h]; rfl), refP_bad l i k (fun x => h x.2)]; rfl
theorem refRef_f (n : Nat) (l : List S35) (i k : Int) : R4_Ref.f (n + 1) l i k = some (refP l i k) := by
  unfold R4_Ref.f
  by_cases h2 : k = 5
  · rw [if_pos h2, kind_f, Option.bind_some]; exact refRef_j n l i k (.inl h2)
  · rw [if_neg h2]
    by_cases h3 : k = 6
    · rw [if_pos h3, kind_f, Option.bind_some]; exact refRef_j n l i k (.inr h3)
    · rw [if_neg h3, refP_bad l i k (by omega)]; simp [R4_Ref.j0, E0]
section
variable {w : World} {l : List S35} {A A1 : Option Addr} {n c n1 c1 : Nat}
theorem rtext_c {i : Int} {t : ByteArray} {e : Int} (hv : textP l i = (t, e)) (hr : Kd.C k35 w A l.length l) (hn : l.length = n) (hc : n ≤ c) :
    Calls Tryd.prog 25 #[.slice A n c, .int .i64 i] w fun y w' => y = .returned (.tuple #[.string t, .int .i64 e]) ∧ Below w.heap.size w w' := by
  subst hn; exact (R4_Text.calls A c l i t e w hr hc (by rw [refText_f, hv])).mono fun e w' ⟨h1, h2⟩ => ⟨h1, h2.below⟩
theorem num_c {i k : Int} {t e : Int} (hv : numP l i k = (t, e)) (hr : Kd.C k35 w A l.length l) (hn : l.length = n) (hc : n ≤ c) :
    Calls Tryd.prog 23 #[.slice A n c, .int .i64 i, .int .i64 k] w fun y w' => y = .returned (.tuple #[.int .i64 t, .int .i64 e]) ∧ Below w.heap.size w w' := by
  subst hn; exact (pool_Num.calls A c l i k t e w hr hc (by rw [poolNum_f, hv])).mono fun e w' ⟨h1, h2⟩ => ⟨h1, h2.below⟩
theorem rnum_c {i k : Int} {t e : Int} (hv : numP l i k = (t, e)) (hr : Kd.C k35 w A l.length l) (hn : l.length = n) (hc : n ≤ c) :
    Calls Tryd.prog 26 #[.slice A n c, .int .i64 i, .int .i64 k] w fun y w' => y = .returned (.tuple #[.int .i64 t, .int .i64 e]) ∧ Below w.heap.size w w' := by
  subst hn; exact (R4_Num.calls A c l i k t e w hr hc (by rw [refNum_f, hv])).mono fun e w' ⟨h1, h2⟩ => ⟨h1, h2.below⟩
theorem rclass_c {i : Int} {t : ByteArray} {e : Int} (hv : classP l i = (t, e)) (hr : Kd.C k35 w A l.length l) (hn : l.length = n) (hc : n ≤ c) :
    Calls Tryd.prog 27 #[.slice A n c, .int .i64 i] w fun y w' => y = .returned (.tuple #[.string t, .int .i64 e]) ∧ Below w.heap.size w w' := by
  subst hn; exact (R4_ClassName.calls A c l i t e w hr hc (by rw [refClass_f, hv])).mono fun e w' ⟨h1, h2⟩ => ⟨h1, h2.below⟩
theorem ref_c {i k : Int} {t u v : ByteArray} {e : Int} (hv : refP l i k = (t, u, v, e)) (hr : Kd.C k35 w A l.length l) (hn : l.length = n) (hc : n ≤ c) :
    Calls Tryd.prog 28 #[.slice A n c, .int .i64 i, .int .i64 k] w fun y w' => y = .returned (.tuple #[.string t, .string u, .string v, .int .i64 e]) ∧ Below w.heap.size w w' := by
  subst hn; exact (pool_Ref.calls 1 A c l i k t u v e w hr hc (by rw [poolRef_f, hv])).mono fun e w' ⟨h1, h2⟩ => ⟨h1, h2.below⟩
theorem rref_c {i k : Int} {t u v : ByteArray} {e : Int} (hv : refP l i k = (t, u, v, e)) (hr : Kd.C k35 w A l.length l) (hn : l.length = n) (hc : n ≤ c) :
    Calls Tryd.prog 29 #[.slice A n c, .int .i64 i, .int .i64 k] w fun y w' => y = .returned (.tuple #[.string t, .string u, .string v, .int .i64 e]) ∧ Below w.heap.size w w' := by
  subst hn; exact (R4_Ref.calls 1 A c l i k t u v e w hr hc (by rw [refRef_f, hv])).mono fun e w' ⟨h1, h2⟩ => ⟨h1, h2.below⟩
end
end Go.Proofs.YtkhigagkgpfpfaaDoor.Ext

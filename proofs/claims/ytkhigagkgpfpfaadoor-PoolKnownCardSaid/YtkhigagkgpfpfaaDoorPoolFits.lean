/- The Go function pool.fits, walked: may a constant be? -/
import Derived.Test.YtkhigagkgpfpfaaDoorTextLen
import Derived.RegionTactic
import Derived.ChangeAlike
set_option linter.unusedVariables false
set_option linter.unusedSimpArgs false
namespace Go.Proofs.YtkhigagkgpfpfaaDoor.Ext
open Go.RowKit Go.Lib Go.Proofs.YtkhigagkgpfpfaaDoorW.PrintWords Go.Proofs.YtkhigagkgpfpfaaDoorW.PrintLast Go.Proofs.YtkhigagkgpfpfaaDoorW.PrintMore Go.Proofs.YtkhigagkgpfpfaaDoor.PLeb
attribute [local go_sem] max2_int min2_int max_two min_two max_three min_three max_four min_four

def tOK (s : ByteArray) : Bool := validD s.data.toList
def isB (l : List S35) (i k : Int) : Bool := decide (0 < i) && (decide (i < (l.length : Int)) && ((rd_T35 l i).f0 == k))
theorem is_f (l : List S35) (i k : Int) : pool_is.f l i k = some (isB l i k) := by
  unfold pool_is.f isB
  by_cases h1 : i > 0
  · rw [if_pos h1, decide_eq_true (show 0 < i from h1)]
    by_cases h2 : i < (l.length : Int)
    · rw [if_pos h2, if_pos (by omega), decide_eq_true h2]; rfl
    · rw [if_neg h2, decide_eq_false h2]; rfl
  · rw [if_neg h1, decide_eq_false (show ¬ 0 < i from h1)]; rfl
theorem kind_f (l : List S35) (i k : Int) : R4_kind.f l i k = some (isB l i k) := by
  unfold R4_kind.f isB
  by_cases h1 : i ≥ 1
  · rw [if_pos h1, decide_eq_true (show 0 < i by omega)]
    by_cases h2 : i < (l.length : Int)
    · rw [if_pos h2, if_pos (by omega), decide_eq_true h2]; rfl
    · rw [if_neg h2, decide_eq_false h2]; rfl
  · rw [if_neg h1, decide_eq_false (show ¬ 0 < i by omega)]; rfl
def E0 : ByteArray := ⟨#[]⟩
def noText (s : ByteArray) : Bool := s.toList == []
/-- may a constant be? -/
def fitsB (l : List S35) (c : S35) : Bool :=
  if c.f0 = 1 then tOK c.f1 && (c.f2 == 0 && (c.f3 == 0 && (c.f4 == 0 && c.f5 == 0)))
  else if c.f0 = 2 then (decide (-2147483648 ≤ c.f2) && decide (c.f2 ≤ 2147483647)) && (noText c.f1 && (c.f3 == 0 && (c.f4 == 0 && c.f5 == 0)))
  else if c.f0 = 3 then noText c.f1 && (c.f3 == 0 && (c.f4 == 0 && c.f5 == 0))
  else if c.f0 = 4 then isB l c.f3 1 && (noText c.f1 && (c.f2 == 0 && (c.f4 == 0 && c.f5 == 0)))
  else if c.f0 = 5 ∨ c.f0 = 6 then (isB l c.f3 4 && (isB l c.f4 1 && isB l c.f5 1)) && (noText c.f1 && c.f2 == 0)
  else false
section
variable {w : World} {A : Option Addr} {n c : Nat}
theorem is_calls {l : List S35} {i k : Int} {b : Bool} (hb : isB l i k = b) (hr : Kd.C k35 w A l.length l) (hn : l.length = n) (hc : n ≤ c) :
    Calls Tryd.prog 45 #[.slice A n c, .int .i64 i, .int .i64 k] w fun e w' => e = .returned (.bool b) ∧ Drawn0 w w' := by
  subst hn; subst hb; exact pool_is.calls A c l i k _ w hr hc (is_f l i k)
end
theorem len_any (s : ByteArray) (w : World) (hs : s.size ≤ 17592186044416) (hT : Tabs w) :
    Calls Tryd.prog 62 #[.string s] w fun e w' => ∃ n : Int, e = .returned (.tuple #[.int .i64 n, .int .i64 (if tOK s then 0 else 20)]) ∧ Below w.heap.size w w' := by
  unfold tOK
  by_cases hv : validD s.data.toList = true
  · rw [hv]
    obtain ⟨cs, hcs, he⟩ := us_of_valid _ _ (Nat.le_refl _) hv
    have h1 := us_len cs
    have h2 := size_us he
    exact (len_good cs s w hcs he (by omega) hT).mono fun e w' ⟨h1, h2⟩ => ⟨_, h1, h2⟩
  · rw [Bool.eq_false_iff.2 hv]
    exact (len_bad s w (by omega) hT (Bool.eq_false_iff.2 hv)).mono fun e w' ⟨h1, h2⟩ => ⟨0, h1, h2⟩
theorem str_empty (t : ByteArray) : ((t.toList == []) = true) = (t.toList = []) := by simp
set_option maxHeartbeats 8000000 in
set_option maxRecDepth 100000 in
theorem fits_long (A : Option Addr) (cap : Nat) (l : List S35) (t : ByteArray) (n a b d : Int) (w : World) :
    Calls Tryd.prog 43 #[.slice A l.length cap, .agg #[.int .i64 3, .string t, .int .i64 n, .int .i64 a, .int .i64 b, .int .i64 d]] w fun e w' => e = .returned (.bool (fitsB l ⟨3, t, n, a, b, d⟩)) ∧ Below w.heap.size w w' := by
  have hu35 := Tryd.underlying35
  go_enter Tryd.func43, Tryd.ntmps43
  go_wp2
  all_goals go_ret
  all_goals exact ⟨by first | (simp [fitsB, noText, *]; done) | (simp [fitsB, noText, *]; intros; omega), below_alloc (below_alloc (Below.refl _ _) _) _⟩
set_option maxHeartbeats 8000000 in
set_option maxRecDepth 100000 in
theorem fits_int (A : Option Addr) (cap : Nat) (l : List S35) (t : ByteArray) (n a b d : Int) (w : World) :
    Calls Tryd.prog 43 #[.slice A l.length cap, .agg #[.int .i64 2, .string t, .int .i64 n, .int .i64 a, .int .i64 b, .int .i64 d]] w fun e w' => e = .returned (.bool (fitsB l ⟨2, t, n, a, b, d⟩)) ∧ Below w.heap.size w w' := by
  have hu35 := Tryd.underlying35
  go_enter Tryd.func43, Tryd.ntmps43
  go_wp2
  all_goals go_ret
  all_goals exact ⟨by first | (simp [fitsB, noText, *]; done) | (simp [fitsB, noText, *]; intros; omega), below_alloc (below_alloc (Below.refl _ _) _) _⟩
set_option maxHeartbeats 8000000 in
set_option maxRecDepth 100000 in
theorem fits_other (A : Option Addr) (cap : Nat) (l : List S35) (k : Int) (t : ByteArray) (n a b d : Int) (w : World) (hk : k ≠ 1 ∧ k ≠ 2 ∧ k ≠ 3 ∧ k ≠ 4 ∧ k ≠ 5 ∧ k ≠ 6) :
    Calls Tryd.prog 43 #[.slice A l.length cap, .agg #[.int .i64 k, .string t, .int .i64 n, .int .i64 a, .int .i64 b, .int .i64 d]] w fun e w' => e = .returned (.bool (fitsB l ⟨k, t, n, a, b, d⟩)) ∧ Below w.heap.size w w' := by
  have hf : fitsB l ⟨k, t, n, a, b, d⟩ = false := by unfold fitsB; simp [hk]
  obtain ⟨k1, k2, k3, k4, k5, k6⟩ := hk
  rw [hf]
  have hu35 := Tryd.underlying35
  have q1 : (k == 1) = false := beq_eq_false_iff_ne.2 k1
  have q2 : (k == 2) = false := beq_eq_false_iff_ne.2 k2
  have q3 : (k == 3) = false := beq_eq_false_iff_ne.2 k3
  have q4 : (k == 4) = false := beq_eq_false_iff_ne.2 k4
  have q5 : (k == 5) = false := beq_eq_false_iff_ne.2 k5
  have q6 : (k == 6) = false := beq_eq_false_iff_ne.2 k6
  clear k1 k2 k3 k4 k5 k6
  go_enter Tryd.func43, Tryd.ntmps43
  go_wp2
  all_goals go_ret
  all_goals exact ⟨rfl, below_alloc (below_alloc (Below.refl _ _) _) _⟩
set_option maxHeartbeats 8000000 in
set_option maxRecDepth 100000 in
theorem fits_class (A : Option Addr) (cap : Nat) (l : List S35) (t : ByteArray) (n a b d : Int) (w : World) (hr : Kd.C k35 w A l.length l) (hc : l.length ≤ cap) :
    Calls Tryd.prog 43 #[.slice A l.length cap, .agg #[.int .i64 4, .string t, .int .i64 n, .int .i64 a, .int .i64 b, .int .i64 d]] w fun e w' => e = .returned (.bool (fitsB l ⟨4, t, n, a, b, d⟩)) ∧ Below w.heap.size w w' := by
  have hu35 := Tryd.underlying35
  obtain ⟨v1, hv1⟩ : ∃ v, isB l a 1 = v := ⟨_, rfl⟩
  have HI := Aside0.mk hv1
  have HR := Aside0.mk hr
  have HC := Aside0.mk hc
  clear hv1 hr hc
  go_enter Tryd.func43, Tryd.ntmps43
  go_wp2_with fail
  refine (is_calls HI.out (Kd.C_below HR.out (below_alloc (below_alloc (Below.refl _ _) _) _)) rfl HC.out).mono ?_
  rintro e w1 ⟨rfl, m, rfl⟩
  cases v1 <;> go_wp2
  all_goals go_ret
  all_goals exact ⟨by simp [fitsB, noText, HI.out, *], by (repeat (first | exact Below.refl _ _ | apply pw_below_drewN | apply below_alloc))⟩
theorem two_old {w w1 : World} {o1 o2 : Obj} (hb : Below ((w.alloc o1).alloc o2).heap.size ((w.alloc o1).alloc o2) w1) : w1.heap[w.heap.size]? = some o1 ∧ w1.heap[w.heap.size + 1]? = some o2 := by
  have h2 : (w.alloc o1).heap.size = w.heap.size + 1 := Array.size_push ..
  have h1 : ((w.alloc o1).alloc o2).heap.size = w.heap.size + 1 + 1 := by rw [← h2]; exact Array.size_push ..
  refine ⟨?_, ?_⟩
  · rw [hb.block _ (by omega)]
    show ((w.heap.push o1).push o2)[w.heap.size]? = some o1
    rw [Array.getElem?_push, if_neg (by rw [Array.size_push]; omega), Array.getElem?_push, if_pos rfl]
  · rw [hb.block _ (by omega)]
    show ((w.heap.push o1).push o2)[w.heap.size + 1]? = some o2
    rw [Array.getElem?_push, if_pos (by rw [Array.size_push])]
set_option maxHeartbeats 8000000 in
set_option maxRecDepth 100000 in
theorem fits_text (A : Option Addr) (cap : Nat) (l : List S35) (t : ByteArray) (n a b d : Int) (w : World) (hT : Tabs w) (hs : t.size ≤ 17592186044416) :
    Calls Tryd.prog 43 #[.slice A l.length cap, .agg #[.int .i64 1, .string t, .int .i64 n, .int .i64 a, .int .i64 b, .int .i64 d]] w fun e w' => e = .returned (.bool (fitsB l ⟨1, t, n, a, b, d⟩)) ∧ Below w.heap.size w w' := by
  have hu35 := Tryd.underlying35
  obtain ⟨v1, hv1⟩ : ∃ v, tOK t = v := ⟨_, rfl⟩
  have HV := Aside0.mk hv1
  have HL := Aside0.mk (fun (w1 : World) (hb : Below w.heap.size w w1) => len_any t w1 hs (hT.below hb))
  clear hv1 hT hs
  go_enter Tryd.func43, Tryd.ntmps43
  go_wp2_with fail
  refine (HL.out _ (below_alloc (below_alloc (Below.refl _ _) _) _)).mono ?_
  rintro e w1 ⟨m, rfl, hb⟩
  obtain ⟨b0, b1⟩ := two_old hb
  have c00 : w1.cell? ⟨w.heap.size, 0, none⟩ = some (.int .i64 1) := cell_of_row _ _ 0 _ _ _ b0
  have c01 : w1.cell? ⟨w.heap.size, 1, none⟩ = some (.string t) := cell_of_row _ _ 1 _ _ _ b0
  have c02 : w1.cell? ⟨w.heap.size, 2, none⟩ = some (.int .i64 n) := cell_of_row _ _ 2 _ _ _ b0
  have c03 : w1.cell? ⟨w.heap.size, 3, none⟩ = some (.int .i64 a) := cell_of_row _ _ 3 _ _ _ b0
  have c04 : w1.cell? ⟨w.heap.size, 4, none⟩ = some (.int .i64 b) := cell_of_row _ _ 4 _ _ _ b0
  have c05 : w1.cell? ⟨w.heap.size, 5, none⟩ = some (.int .i64 d) := cell_of_row _ _ 5 _ _ _ b0
  have c10 : w1.cell? ⟨w.heap.size + 1, 0, none⟩ = some (.int .i64 1) := cell_of_row _ _ 0 _ _ _ b1
  have c11 : w1.cell? ⟨w.heap.size + 1, 1, none⟩ = some (.string t) := cell_of_row _ _ 1 _ _ _ b1
  have c12 : w1.cell? ⟨w.heap.size + 1, 2, none⟩ = some (.int .i64 0) := cell_of_row _ _ 2 _ _ _ b1
  have c13 : w1.cell? ⟨w.heap.size + 1, 3, none⟩ = some (.int .i64 0) := cell_of_row _ _ 3 _ _ _ b1
  have c14 : w1.cell? ⟨w.heap.size + 1, 4, none⟩ = some (.int .i64 0) := cell_of_row _ _ 4 _ _ _ b1
  have c15 : w1.cell? ⟨w.heap.size + 1, 5, none⟩ = some (.int .i64 0) := cell_of_row _ _ 5 _ _ _ b1
  have HB := Aside0.mk (below_step (below_alloc (below_alloc (Below.refl _ _) _) _) hb)
  clear hb b0 b1 HL
  rw [HV.out]
  cases v1
  · rw [show (if false = true then (0 : Int) else 20) = 20 from rfl]
    go_wp2
    all_goals go_ret
    all_goals exact ⟨by simp [fitsB, noText, HV.out, *], HB.out⟩
  · rw [show (if true = true then (0 : Int) else 20) = 0 from rfl]
    go_wp2
    all_goals go_ret
    all_goals exact ⟨by simp [fitsB, noText, HV.out, *], HB.out⟩
set_option maxHeartbeats 8000000 in
set_option maxRecDepth 100000 in
theorem fits_ref5 (A : Option Addr) (cap : Nat) (l : List S35) (t : ByteArray) (n a b d : Int) (w : World) (hr : Kd.C k35 w A l.length l) (hc : l.length ≤ cap) :
    Calls Tryd.prog 43 #[.slice A l.length cap, .agg #[.int .i64 5, .string t, .int .i64 n, .int .i64 a, .int .i64 b, .int .i64 d]] w fun e w' => e = .returned (.bool (fitsB l ⟨5, t, n, a, b, d⟩)) ∧ Below w.heap.size w w' := by
  have hu35 := Tryd.underlying35
  obtain ⟨v1, hv1⟩ : ∃ v, isB l a 4 = v := ⟨_, rfl⟩
  obtain ⟨v2, hv2⟩ : ∃ v, isB l b 1 = v := ⟨_, rfl⟩
  obtain ⟨v3, hv3⟩ : ∃ v, isB l d 1 = v := ⟨_, rfl⟩
  have HI := Aside0.mk hv1
  have HI2 := Aside0.mk hv2
  have HI3 := Aside0.mk hv3
  have HR := Aside0.mk hr
  have HC := Aside0.mk hc
  clear hv1 hv2 hv3 hr hc
  go_enter Tryd.func43, Tryd.ntmps43
  go_wp2_with fail
  go_region
  go_wp2_with fail
  refine (is_calls HI.out (Kd.C_below HR.out (by repeat (first | exact Below.refl _ _ | apply pw_below_drewN | apply below_alloc))) rfl HC.out).mono ?_
  rintro e w1 ⟨rfl, m, rfl⟩
  cases v1
  · go_wp2
    all_goals go_ret
    all_goals exact ⟨by simp [fitsB, noText, HI.out, *], by (repeat (first | exact Below.refl _ _ | apply pw_below_drewN | apply below_alloc))⟩
  go_wp2_with fail
  refine (is_calls HI2.out (Kd.C_below HR.out (by repeat (first | exact Below.refl _ _ | apply pw_below_drewN | apply below_alloc))) rfl HC.out).mono ?_
  rintro e w1 ⟨rfl, m2, rfl⟩
  cases v2
  · go_wp2
    all_goals go_ret
    all_goals exact ⟨by simp [fitsB, noText, HI.out, HI2.out, *], by (repeat (first | exact Below.refl _ _ | apply pw_below_drewN | apply below_alloc))⟩
  go_wp2_with fail
  refine (is_calls HI3.out (Kd.C_below HR.out (by repeat (first | exact Below.refl _ _ | apply pw_below_drewN | apply below_alloc))) rfl HC.out).mono ?_
  rintro e w1 ⟨rfl, m3, rfl⟩
  cases v3 <;> go_wp2
  all_goals go_ret
  all_goals exact ⟨by simp [fitsB, noText, HI.out, HI2.out, HI3.out, *], by (repeat (first | exact Below.refl _ _ | apply pw_below_drewN | apply below_alloc))⟩
set_option maxHeartbeats 8000000 in
set_option maxRecDepth 100000 in
theorem fits_ref6 (A : Option Addr) (cap : Nat) (l : List S35) (t : ByteArray) (n a b d : Int) (w : World) (hr : Kd.C k35 w A l.length l) (hc : l.length ≤ cap) :
    Calls Tryd.prog 43 #[.slice A l.length cap, .agg #[.int .i64 6, .string t, .int .i64 n, .int .i64 a, .int .i64 b, .int .i64 d]] w fun e w' => e = .returned (.bool (fitsB l ⟨6, t, n, a, b, d⟩)) ∧ Below w.heap.size w w' := by
  have hu35 := Tryd.underlying35
  obtain ⟨v1, hv1⟩ : ∃ v, isB l a 4 = v := ⟨_, rfl⟩
  obtain ⟨v2, hv2⟩ : ∃ v, isB l b 1 = v := ⟨_, rfl⟩
  obtain ⟨v3, hv3⟩ : ∃ v, isB l d 1 = v := ⟨_, rfl⟩
  have HI := Aside0.mk hv1
  have HI2 := Aside0.mk hv2
  have HI3 := Aside0.mk hv3
  have HR := Aside0.mk hr
  have HC := Aside0.mk hc
  clear hv1 hv2 hv3 hr hc
  go_enter Tryd.func43, Tryd.ntmps43
  go_wp2_with fail
  go_region
  go_wp2_with fail
  refine (is_calls HI.out (Kd.C_below HR.out (by repeat (first | exact Below.refl _ _ | apply pw_below_drewN | apply below_alloc))) rfl HC.out).mono ?_
  rintro e w1 ⟨rfl, m, rfl⟩
  cases v1
  · go_wp2
    all_goals go_ret
    all_goals exact ⟨by simp [fitsB, noText, HI.out, *], by (repeat (first | exact Below.refl _ _ | apply pw_below_drewN | apply below_alloc))⟩
  go_wp2_with fail
  refine (is_calls HI2.out (Kd.C_below HR.out (by repeat (first | exact Below.refl _ _ | apply pw_below_drewN | apply below_alloc))) rfl HC.out).mono ?_
  rintro e w1 ⟨rfl, m2, rfl⟩
  cases v2
  · go_wp2
    all_goals go_ret
    all_goals exact ⟨by simp [fitsB, noText, HI.out, HI2.out, *], by (repeat (first | exact Below.refl _ _ | apply pw_below_drewN | apply below_alloc))⟩
  go_wp2_with fail
  refine (is_calls HI3.out (Kd.C_below HR.out (by repeat (first | exact Below.refl _ _ | apply pw_below_drewN | apply below_alloc))) rfl HC.out).mono ?_
  rintro e w1 ⟨rfl, m3, rfl⟩
  cases v3 <;> go_wp2
  all_goals go_ret
  all_goals exact ⟨by simp [fitsB, noText, HI.out, HI2.out, HI3.out, *], by (repeat (first | exact Below.refl _ _ | apply pw_below_drewN | apply below_alloc))⟩
/-- pool.fits -/
theorem fits_calls (A : Option Addr) (cap : Nat) (l : List S35) (x : S35) (w : World) (hT : Tabs w) (hs : x.f1.size ≤ 17592186044416) (hr : Kd.C k35 w A l.length l) (hc : l.length ≤ cap) :
    Calls Tryd.prog 43 #[.slice A l.length cap, .agg #[.int .i64 x.f0, .string x.f1, .int .i64 x.f2, .int .i64 x.f3, .int .i64 x.f4, .int .i64 x.f5]] w fun e w' => e = .returned (.bool (fitsB l x)) ∧ Below w.heap.size w w' := by
  obtain ⟨k, t, n, a, b, d⟩ := x
  rcases (show k = 1 ∨ k = 2 ∨ k = 3 ∨ k = 4 ∨ k = 5 ∨ k = 6 ∨ (k ≠ 1 ∧ k ≠ 2 ∧ k ≠ 3 ∧ k ≠ 4 ∧ k ≠ 5 ∧ k ≠ 6) by omega) with h | h | h | h | h | h | h
  · subst h; exact fits_text A cap l t n a b d w hT hs
  · subst h; exact fits_int A cap l t n a b d w
  · subst h; exact fits_long A cap l t n a b d w
  · subst h; exact fits_class A cap l t n a b d w hr hc
  · subst h; exact fits_ref5 A cap l t n a b d w hr hc
  · subst h; exact fits_ref6 A cap l t n a b d w hr hc
  · exact fits_other A cap l k t n a b d w h
end Go.Proofs.YtkhigagkgpfpfaaDoor.Ext

/- The Go function warpbeamref01.S, walked by hand: what they compute, as plain functions. -/
import Derived.Test.YtkhigagkgpfpfaaDoorLebExt
import Derived.Deep.QuietTactic
import Derived.BigQuiet
set_option linter.unusedVariables false
set_option linter.unusedSimpArgs false
namespace Go.Proofs.YtkhigagkgpfpfaaDoor.Ext
open Go.RowKit Go.Proofs.YtkhigagkgpfpfaaDoorW.PrintWords Go.Proofs.YtkhigagkgpfpfaaDoorW.PrintLast Go.Proofs.YtkhigagkgpfpfaaDoorW.PrintMore
attribute [local go_sem] max2_int min2_int max_two min_two max_three min_three max_four min_four

def SInv (n : Int) (m : Int) (out : List Int) : Prop := out ++ sb m = sb n ∧ out.length + (sb m).length ≤ 10
theorem SInv.step {n m : Int} {out : List Int} (h : SInv n m out) (hm : ¬ (-64 ≤ m ∧ m < 64)) : SInv n (m / 128) (out ++ [m % 128 + 128]) := by
  obtain ⟨e, hl⟩ := h
  rw [sb, if_neg hm] at e hl
  rw [List.length_cons] at hl
  exact ⟨by rw [List.append_assoc]; exact e, by rw [List.length_append, List.length_cons, List.length_nil]; omega⟩
theorem SInv.finish {n m : Int} {out : List Int} (h : SInv n m out) (hm : -64 ≤ m ∧ m < 64) : out ++ [m % 128] = sb n := by
  obtain ⟨e, _⟩ := h
  rw [sb, if_pos hm] at e
  exact e
set_option maxHeartbeats 16000000 in
set_option maxRecDepth 100000 in
theorem refS_calls (n : Int) (w : World) (h0 : -9223372036854775808 ≤ n) (h1 : n ≤ 9223372036854775807) :
    Calls Tryd.prog 54 #[.int .i64 n] w fun e w' => ∃ v0_ : Value, e = .returned (v0_) ∧ Kd.R (Kd.int .u8) 5 w' w.heap.size (fun _ => True) v0_ (sb n) ∧ Below w.heap.size w w' := by
  obtain ⟨V, hV⟩ : ∃ V, sb n = V := ⟨_, rfl⟩
  rw [hV]
  have HI0 := Aside0.mk (show SInv n n [] ∧ sb n = V from ⟨⟨rfl, by have := sb_len 9 n (by omega) (by omega); simp; omega⟩, hV⟩)
  have HB := Aside0.mk (Below.refl w.heap.size w)
  clear hV
  go_enter Tryd.func54, Tryd.ntmps54
  go_wp2
  go_loopw [0, 3] (fun nv ov wr => ∃ (m : Int) (out : List Int) (v : Value), v = ov ∧ nv = .int .i64 m ∧ -9223372036854775808 ≤ m ∧ m ≤ 9223372036854775807 ∧ Aside0 (wr.ownsRow w.heap.size 5 1 v out.length (nums .u8 out)) ∧ Aside0 (SInv n m out ∧ sb n = V) ∧ Aside0 (Below w.heap.size w wr))
    (fun nv _ _ => (intOf nv).natAbs)
  case atStart => exact ⟨n, [], _, rfl, rfl, h0, h1, ⟨own_nil _ _ _ _⟩, HI0, HB⟩
  case round =>
    obtain ⟨m, out, v, rfl, rfl, hm0, hm1, HO, HI, HB'⟩ := hrel
    have ba := i64_and127 m
    have hl := HI.out.1.2
    have hp := (sb_form m).pos
    have HL := Aside0.mk (show out.length + 1 ≤ 140737488355328 by omega)
    clear hl hp
    by_cases hA : -64 ≤ m ∧ m < 64
    · have e := HI.out.1.finish hA
      rw [HI.out.2] at e
      have HE := Aside0.mk e
      clear e
      obtain ⟨hA0, hA1⟩ := hA
      rcases Int.lt_or_le m 0 with hs | hs
      · skip
        have q1 : ((m / 128) == 0) = false := beq_eq_false_iff_ne.2 (by omega)
        have q2 : ((m / 128) == -1) = true := beq_iff_eq.2 (by omega)
        have q3 : ¬ (m % 128 < 64) := by omega
        have q4 : (64 : Int) ≤ m % 128 := by omega
        go_wp2_with (at_builtin; refine print_append_num (w0 := w) w.heap.size rfl _ _ 22 5 .u8 1 rfl Tryd.underlying22 info5 (by decide) v out (m % 128) rfl rfl HO.out HB'.out (below_size HB'.out) (by have := HL.out; omega) ?_; intro v1 w5 ho hb hg hat; have HO1 := Aside0.mk ho; have HB1 := Aside0.mk hb; clear ho hb hg hat)
        go_ret
        have HR := Kd.R_of_own (enc := Value.int .u8) (h1 := fun _ => rfl) (ok := fun _ => True) HO1.out (fun _ _ => trivial)
        rw [HE.out] at HR
        exact ⟨_, rfl, HR, HB1.out⟩
      · skip
        have q1 : ((m / 128) == 0) = true := beq_iff_eq.2 (by omega)
        have q3 : m % 128 < 64 := by omega
        go_wp2_with (at_builtin; refine print_append_num (w0 := w) w.heap.size rfl _ _ 22 5 .u8 1 rfl Tryd.underlying22 info5 (by decide) v out (m % 128) rfl rfl HO.out HB'.out (below_size HB'.out) (by have := HL.out; omega) ?_; intro v1 w5 ho hb hg hat; have HO1 := Aside0.mk ho; have HB1 := Aside0.mk hb; clear ho hb hg hat)
        go_ret
        have HR := Kd.R_of_own (enc := Value.int .u8) (h1 := fun _ => rfl) (ok := fun _ => True) HO1.out (fun _ _ => trivial)
        rw [HE.out] at HR
        exact ⟨_, rfl, HR, HB1.out⟩
    · have HS := Aside0.mk (And.intro (HI.out.1.step hA) HI.out.2)
      rcases (show (m / 128 ≠ 0 ∧ m / 128 ≠ -1) ∨ (64 ≤ m ∧ m < 128) ∨ (-128 ≤ m ∧ m < -64) by omega) with hB | hB | hB
      · obtain ⟨hB0, hB1⟩ := hB
        have q1 : ((m / 128) == 0) = false := beq_eq_false_iff_ne.2 hB0
        have q2 : ((m / 128) == -1) = false := beq_eq_false_iff_ne.2 hB1
        clear hB0 hB1
        go_wp2_with (at_builtin; refine print_append_num (w0 := w) w.heap.size rfl _ _ 22 5 .u8 1 rfl Tryd.underlying22 info5 (by decide) v out (m % 128 + 128) rfl rfl HO.out HB'.out (below_size HB'.out) (by have := HL.out; omega) ?_; intro v1 w5 ho hb hg hat; have HO1 := Aside0.mk ho; have HB1 := Aside0.mk hb; clear ho hb hg hat)
        go_roundw
        case rel => exact ⟨m / 128, out ++ [m % 128 + 128], _, rfl, rfl, by omega, by omega, HO1, HS, HB1⟩
        case measure => simp [intOf]; omega
      · obtain ⟨hB0, hB1⟩ := hB
        have q1 : ((m / 128) == 0) = true := beq_iff_eq.2 (by omega)
        have q2 : ((m / 128) == -1) = false := beq_eq_false_iff_ne.2 (by omega)
        have q3 : ¬ (m % 128 < 64) := by omega
        go_wp2_with (at_builtin; refine print_append_num (w0 := w) w.heap.size rfl _ _ 22 5 .u8 1 rfl Tryd.underlying22 info5 (by decide) v out (m % 128 + 128) rfl rfl HO.out HB'.out (below_size HB'.out) (by have := HL.out; omega) ?_; intro v1 w5 ho hb hg hat; have HO1 := Aside0.mk ho; have HB1 := Aside0.mk hb; clear ho hb hg hat)
        go_roundw
        case rel => exact ⟨m / 128, out ++ [m % 128 + 128], _, rfl, rfl, by omega, by omega, HO1, HS, HB1⟩
        case measure => simp [intOf]; omega
      · obtain ⟨hB0, hB1⟩ := hB
        have q1 : ((m / 128) == 0) = false := beq_eq_false_iff_ne.2 (by omega)
        have q2 : ((m / 128) == -1) = true := beq_iff_eq.2 (by omega)
        have q3 : ¬ ((64 : Int) ≤ m % 128) := by omega
        go_wp2_with (at_builtin; refine print_append_num (w0 := w) w.heap.size rfl _ _ 22 5 .u8 1 rfl Tryd.underlying22 info5 (by decide) v out (m % 128 + 128) rfl rfl HO.out HB'.out (below_size HB'.out) (by have := HL.out; omega) ?_; intro v1 w5 ho hb hg hat; have HO1 := Aside0.mk ho; have HB1 := Aside0.mk hb; clear ho hb hg hat)
        go_roundw
        case rel => exact ⟨m / 128, out ++ [m % 128 + 128], _, rfl, rfl, by omega, by omega, HO1, HS, HB1⟩
        case measure => simp [intOf]; omega
/-- 'warpbeamref01.S', in the form of the print. -/
def R1_S.f (a0 : Int) : Option (List Int) := if -9223372036854775808 ≤ a0 ∧ a0 ≤ 9223372036854775807 then some (sb a0) else none
theorem R1_S.calls (a0 : Int) (r : List Int) (w : World) (h : R1_S.f a0 = some r) :
    Calls Tryd.prog 54 #[.int .i64 a0] w fun e w' => ∃ v0_ : Value, e = .returned (v0_) ∧ Kd.R (Kd.int .u8) 5 w' w.heap.size (fun _ => True) v0_ r ∧ Below w.heap.size w w' := by
  unfold R1_S.f at h
  split at h
  · rename_i hg
    obtain rfl := Option.some.inj h
    exact refS_calls a0 w hg.1 hg.2
  · cases h
end Go.Proofs.YtkhigagkgpfpfaaDoor.Ext

/- The Go function leb.TakeS, walked by the print at an earlier seat and turned to this one by a program of this session. -/
import Derived.Test.YtkhigagkgpfpfaaDoorPLebx0
import Derived.Test.YtkhigagkgpfpfaaDoorLebExt
namespace Go.Proofs.YtkhigagkgpfpfaaDoor.PLeb
open Go.RowKit Go.Proofs.YtkhigagkgpfpfaaDoorW.PrintWords Go.Proofs.YtkhigagkgpfpfaaDoorW.PrintLast Go.Proofs.YtkhigagkgpfpfaaDoorW.PrintMore Go.Proofs.YtkhigagkgpfpfaaDoor.Ext
attribute [local go_sem] max2_int min2_int max_two min_two max_three min_three max_four min_four
set_option linter.unusedVariables false
set_option linter.unusedSimpArgs false

/-! ### leb_TakeS: function 18 -/
def leb_TakeS.j0 : Nat → List Int → Int → Int → Int → Bool → Option (Int × List Int × Int)
  | 0, _, _, _, _, _ => none
  | k + 1, x0, x5, x6, x7, x29 => if x29 = true then (if 0 ≤ (wrap64 (7 * x6)) then (if x6 > 1 then (if x7 = 0 then (if 0 ≤ (wrap64 (x6 - 2)) then (if (wrap64 (x6 - 2)) < (x0.length : Int) then (if (Go.bits .and .u8 (rd x0 (wrap64 (x6 - 2))) 64) = 0 then (some (0, ([] : List Int), 4)) else (if x7 = 127 then (some (0, ([] : List Int), 4)) else (if x6 = 10 then (if 0 ≤ x6 then (if x6 ≤ (x0.length : Int) then ((slices_Clone_byte_byte.f (x0.drop (x6 : Int).toNat)).bind fun t151 => (some (wrap64 (Go.bits .or .u64 x5 (shl .u64 18446744073709551615 (wrap64 (7 * x6)))), t151, 0))) else (none)) else (none)) else (if 0 ≤ x6 then (if x6 ≤ (x0.length : Int) then ((slices_Clone_byte_byte.f (x0.drop (x6 : Int).toNat)).bind fun t155 => (some (wrap64 (Go.bits .or .u64 x5 (shl .u64 18446744073709551615 (wrap64 (7 * x6)))), t155, 0))) else (none)) else (none))))) else (none)) else (none)) else (if x7 = 127 then (if 0 ≤ (wrap64 (x6 - 2)) then (if (wrap64 (x6 - 2)) < (x0.length : Int) then (if (Go.bits .and .u8 (rd x0 (wrap64 (x6 - 2))) 64) = 0 then (if x6 = 10 then (if 0 ≤ x6 then (if x6 ≤ (x0.length : Int) then ((slices_Clone_byte_byte.f (x0.drop (x6 : Int).toNat)).bind fun t160 => (some (wrap64 (Go.bits .or .u64 x5 (shl .u64 18446744073709551615 (wrap64 (7 * x6)))), t160, 0))) else (none)) else (none)) else (if 0 ≤ x6 then (if x6 ≤ (x0.length : Int) then ((slices_Clone_byte_byte.f (x0.drop (x6 : Int).toNat)).bind fun t164 => (some (wrap64 (Go.bits .or .u64 x5 (shl .u64 18446744073709551615 (wrap64 (7 * x6)))), t164, 0))) else (none)) else (none))) else (some (0, ([] : List Int), 4))) else (none)) else (none)) else (if x6 = 10 then (some (0, ([] : List Int), 4)) else (if 0 ≤ x6 then (if x6 ≤ (x0.length : Int) then ((slices_Clone_byte_byte.f (x0.drop (x6 : Int).toNat)).bind fun t168 => (some (wrap64 (Go.bits .or .u64 x5 (shl .u64 18446744073709551615 (wrap64 (7 * x6)))), t168, 0))) else (none)) else (none))))) else (if x6 = 10 then (if x7 = 0 then (if 0 ≤ x6 then (if x6 ≤ (x0.length : Int) then ((slices_Clone_byte_byte.f (x0.drop (x6 : Int).toNat)).bind fun t172 => (some (wrap64 (Go.bits .or .u64 x5 (shl .u64 18446744073709551615 (wrap64 (7 * x6)))), t172, 0))) else (none)) else (none)) else (if x7 = 127 then (if 0 ≤ x6 then (if x6 ≤ (x0.length : Int) then ((slices_Clone_byte_byte.f (x0.drop (x6 : Int).toNat)).bind fun t176 => (some (wrap64 (Go.bits .or .u64 x5 (shl .u64 18446744073709551615 (wrap64 (7 * x6)))), t176, 0))) else (none)) else (none)) else (some (0, ([] : List Int), 4)))) else (if 0 ≤ x6 then (if x6 ≤ (x0.length : Int) then ((slices_Clone_byte_byte.f (x0.drop (x6 : Int).toNat)).bind fun t180 => (some (wrap64 (Go.bits .or .u64 x5 (shl .u64 18446744073709551615 (wrap64 (7 * x6)))), t180, 0))) else (none)) else (none)))) else (none)) else (if x6 > 1 then (if x7 = 0 then (if 0 ≤ (wrap64 (x6 - 2)) then (if (wrap64 (x6 - 2)) < (x0.length : Int) then (if (Go.bits .and .u8 (rd x0 (wrap64 (x6 - 2))) 64) = 0 then (some (0, ([] : List Int), 4)) else (if x7 = 127 then (some (0, ([] : List Int), 4)) else (if x6 = 10 then (if 0 ≤ x6 then (if x6 ≤ (x0.length : Int) then ((slices_Clone_byte_byte.f (x0.drop (x6 : Int).toNat)).bind fun t186 => (some (wrap64 (x5), t186, 0))) else (none)) else (none)) else (if 0 ≤ x6 then (if x6 ≤ (x0.length : Int) then ((slices_Clone_byte_byte.f (x0.drop (x6 : Int).toNat)).bind fun t190 => (some (wrap64 (x5), t190, 0))) else (none)) else (none))))) else (none)) else (none)) else (if x7 = 127 then (if 0 ≤ (wrap64 (x6 - 2)) then (if (wrap64 (x6 - 2)) < (x0.length : Int) then (if (Go.bits .and .u8 (rd x0 (wrap64 (x6 - 2))) 64) = 0 then (if x6 = 10 then (if 0 ≤ x6 then (if x6 ≤ (x0.length : Int) then ((slices_Clone_byte_byte.f (x0.drop (x6 : Int).toNat)).bind fun t195 => (some (wrap64 (x5), t195, 0))) else (none)) else (none)) else (if 0 ≤ x6 then (if x6 ≤ (x0.length : Int) then ((slices_Clone_byte_byte.f (x0.drop (x6 : Int).toNat)).bind fun t199 => (some (wrap64 (x5), t199, 0))) else (none)) else (none))) else (some (0, ([] : List Int), 4))) else (none)) else (none)) else (if x6 = 10 then (some (0, ([] : List Int), 4)) else (if 0 ≤ x6 then (if x6 ≤ (x0.length : Int) then ((slices_Clone_byte_byte.f (x0.drop (x6 : Int).toNat)).bind fun t203 => (some (wrap64 (x5), t203, 0))) else (none)) else (none))))) else (if x6 = 10 then (if x7 = 0 then (if 0 ≤ x6 then (if x6 ≤ (x0.length : Int) then ((slices_Clone_byte_byte.f (x0.drop (x6 : Int).toNat)).bind fun t207 => (some (wrap64 (x5), t207, 0))) else (none)) else (none)) else (if x7 = 127 then (if 0 ≤ x6 then (if x6 ≤ (x0.length : Int) then ((slices_Clone_byte_byte.f (x0.drop (x6 : Int).toNat)).bind fun t211 => (some (wrap64 (x5), t211, 0))) else (none)) else (none)) else (some (0, ([] : List Int), 4)))) else (if 0 ≤ x6 then (if x6 ≤ (x0.length : Int) then ((slices_Clone_byte_byte.f (x0.drop (x6 : Int).toNat)).bind fun t215 => (some (wrap64 (x5), t215, 0))) else (none)) else (none))))
def leb_TakeS.f (k : Nat) (l0 : List Int) : Option (Int × List Int × Int) := (leb_row.f l0 10).bind fun bt144 => (if bt144.2.2 = 0 then (if 0 ≤ (wrap64 (bt144.2.1 - 1)) then (if (wrap64 (bt144.2.1 - 1)) < (l0.length : Int) then (if (Go.bits .and .u8 (rd l0 (wrap64 (bt144.2.1 - 1))) 64) = 0 then (leb_TakeS.j0 k l0 bt144.1 bt144.2.1 (rd l0 (wrap64 (bt144.2.1 - 1))) false) else (leb_TakeS.j0 k l0 bt144.1 bt144.2.1 (rd l0 (wrap64 (bt144.2.1 - 1))) (decide (bt144.2.1 < 10)))) else (none)) else (none)) else (some (0, ([] : List Int), bt144.2.2)))
theorem leb_TakeS.mono_l : ∀ k, (∀ y0 y1 y2 y3 y4, LeO (leb_TakeS.j0 k y0 y1 y2 y3 y4) (leb_TakeS.j0 (k + 1) y0 y1 y2 y3 y4))
  | 0 => fun _ _ _ _ _ r h => by simp [leb_TakeS.j0] at h
  | k + 1 => by
    have ih0 := leb_TakeS.mono_l k
    · intro y0 y1 y2 y3 y4
      unfold leb_TakeS.j0
      repeat' first
      | (with_reducible exact ih0 _ _ _ _ _)
      | (with_reducible exact LeO.refl _)
      | (with_reducible exact LeO.none _)
      | (with_reducible refine LeO.ite ?_ ?_)
      | (with_reducible refine LeO.bind ?_ (fun _ => ?_))
      | exact ih0 _ _ _ _ _
      | exact LeO.none _
      | refine LeO.ite ?_ ?_
      | refine LeO.bind ?_ (fun _ => ?_)
theorem leb_TakeS.mono : ∀ a0 k, LeO (leb_TakeS.f k a0) (leb_TakeS.f (k + 1) a0) := by
  intro a0 k
  have ih0 := leb_TakeS.mono_l k
  unfold leb_TakeS.f
  repeat' first
      | (with_reducible exact ih0 _ _ _ _ _)
      | (with_reducible exact LeO.refl _)
      | (with_reducible exact LeO.none _)
      | (with_reducible refine LeO.ite ?_ ?_)
      | (with_reducible refine LeO.bind ?_ (fun _ => ?_))
      | exact ih0 _ _ _ _ _
      | exact LeO.none _
      | refine LeO.ite ?_ ?_
      | refine LeO.bind ?_ (fun _ => ?_)
set_option maxHeartbeats 8000000 in
set_option maxRecDepth 100000 in
theorem leb_TakeS.calls (k : Nat) (A0 : Option Addr) (c0 : Nat) (l0 : List Int) (r1 : Int) (r2 : List Int) (r3 : Int) (w : World) (hr0 : Kd.C (Kd.int .u8) w A0 l0.length l0) (hc0 : l0.length ≤ c0) (h : leb_TakeS.f k l0 = some (r1, r2, r3)) :
    Calls Tryd.prog 112 #[.slice A0 l0.length c0] w fun e w' => ∃ v1_ : Value, e = .returned (.tuple #[.int .i64 r1, v1_, .int .i64 r3]) ∧ Kd.R (Kd.int .u8) 5 w' w.heap.size (fun _ => True) v1_ r2 ∧ Below w.heap.size w w' := by
  have HR0 := Aside0.mk hr0
  have HC0 := Aside0.mk hc0
  clear hr0 hc0
  have HB := Aside0.mk (Below.refl w.heap.size w)
  have H : ((leb_row.f l0 10).bind fun bt144 => (if bt144.2.2 = 0 then (if 0 ≤ (wrap64 (bt144.2.1 - 1)) then (if (wrap64 (bt144.2.1 - 1)) < (l0.length : Int) then (if (Go.bits .and .u8 (rd l0 (wrap64 (bt144.2.1 - 1))) 64) = 0 then (leb_TakeS.j0 k l0 bt144.1 bt144.2.1 (rd l0 (wrap64 (bt144.2.1 - 1))) false) else (leb_TakeS.j0 k l0 bt144.1 bt144.2.1 (rd l0 (wrap64 (bt144.2.1 - 1))) (decide (bt144.2.1 < 10)))) else (none)) else (none)) else (some (0, ([] : List Int), bt144.2.2)))) = some (r1, r2, r3) := h
  clear h
  replace H := Option.bind_eq_some_iff.mp H
  obtain ⟨⟨t144, t145, t146⟩, A20, H⟩ := H
  replace H : (if t146 = 0 then (if 0 ≤ (wrap64 (t145 - 1)) then (if (wrap64 (t145 - 1)) < (l0.length : Int) then (if (Go.bits .and .u8 (rd l0 (wrap64 (t145 - 1))) 64) = 0 then (leb_TakeS.j0 k l0 t144 t145 (rd l0 (wrap64 (t145 - 1))) false) else (leb_TakeS.j0 k l0 t144 t145 (rd l0 (wrap64 (t145 - 1))) (decide (t145 < 10)))) else (none)) else (none)) else (some (0, ([] : List Int), t146))) = some (r1, r2, r3) := H
  have A2 := Aside0.mk A20
  clear A20
  by_cases c3 : t146 = 0
  · rw [if_pos c3] at H
    have c3b0 : (t146 == 0) = true := beq_iff_eq.mpr c3
    have c3b1 : (t146 != 0) = false := bne_eq_false_iff_eq.mpr c3
    clear c3
    obtain ⟨ji4, hji4⟩ : ∃ j_ : Int, (wrap64 (t145 - 1)) = j_ := ⟨_, rfl⟩
    replace H : (if 0 ≤ (ji4) then (if (ji4) < (l0.length : Int) then (if (Go.bits .and .u8 (rd l0 (ji4)) 64) = 0 then (leb_TakeS.j0 k l0 t144 t145 (rd l0 (ji4)) false) else (leb_TakeS.j0 k l0 t144 t145 (rd l0 (ji4)) (decide (t145 < 10)))) else (none)) else (none)) = some (r1, r2, r3) := by first | (rw [hji4] at H; exact H) | (simp only [hji4] at H ⊢; exact H)
    (try rw [hji4] at A2)
    have hji4w : (IntKind.i64.wrap (t145 - 1)) = ji4 := (i64_w _).trans hji4
    by_cases c5 : 0 ≤ (ji4)
    · rw [if_pos c5] at H
      have c5b0 : decide (0 ≤ (ji4)) = true := decide_eq_true c5
      clear c5
      by_cases c6 : (ji4) < (l0.length : Int)
      · rw [if_pos c6] at H
        have c6b0 : decide ((ji4) < (l0.length : Int)) = true := decide_eq_true c6
        clear c6
        have HC7 := Aside0.mk H
        clear H
        go_enter Tryd.func112, Tryd.ntmps112
        go_upto_region 5 with (first | ((with_reducible refine gate_callee (f := 56) rfl ?_); refine goesL_ (some 11) rfl rfl Tryd.func56 (by kernel_rfl) rfl #[.slice A0 l0.length c0, .int .i64 10] rfl (by (try simp only [List.map_toArray, List.map_cons, List.map_nil]); first | done | rfl | (simp only [List.length_drop, List.length_take]; rfl)) ?_; (with_reducible refine (leb_row.calls _ _ l0 10 t144 t145 t146 _ ?side1 ?side2 A2.out).mono ?_); (case side1 => repeat (first | exact HR0.out | (with_reducible refine Kd.C_alloc ?_ _) | (with_reducible refine Kd.C_drewN ?_ _) | (with_reducible refine Kd.C_drew ?_))); (case side2 => exact HC0.out); rintro e w' ⟨rfl, ⟨nd, rfl⟩⟩; refine ⟨_, rfl, ?_⟩; have p147 : 0 ≤ ((ji4) : Int) := of_decide_eq_true (by first | (with_reducible assumption) | assumption); have q147 : (ji4) < (l0.length : Int) := of_decide_eq_true (by first | (with_reducible assumption) | assumption); obtain ⟨ad147, e147, hx147_0⟩ := Kd.at_int HR0.out (ji4) p147 q147; cases e147; replace p147 := eq_true p147; replace q147 := eq_true q147))
        (try simp only [Act.put, List.setIfInBounds_toArray, List.set_cons_zero, List.set_cons_succ])
        go_cut [29] (fun v29 wc => ∃ (kq : Nat) (x29_6 : Bool), v29 = .bool x29_6 ∧ Aside0 (leb_TakeS.j0 kq l0 t144 t145 (rd l0 (ji4)) x29_6 = some (r1, r2, r3)) ∧ Aside0 (kq ≤ k) ∧ Aside0 (Below w.heap.size w wc))
        case first =>
          have H := HC7.out
          clear HC7
          by_cases c8 : (Go.bits .and .u8 (rd l0 (ji4)) 64) = 0
          · rw [if_pos c8] at H
            have c8b0 : ((Go.bits .and .u8 (rd l0 (ji4)) 64) == 0) = true := beq_iff_eq.mpr c8
            have c8b1 : ((Go.bits .and .u8 (rd l0 (ji4)) 64) != 0) = false := bne_eq_false_iff_eq.mpr c8
            clear c8
            (first | rw [c8b0] | (simp only [i64_w, i32_w]; rw [c8b0]) | skip)
            have H' := Aside0.mk H
            clear H
            go_wp2
            go_meet
            case rel => exact ⟨_, (false), (by first | rfl | (simp; done) | (simp [*]; done)), H', ⟨by first | omega | exact Nat.le_refl _⟩, ⟨by repeat (first | (with_reducible first | exact HB.out | apply below_alloc | apply pw_below_drewN | apply below_drew1) | exact HB.out)⟩⟩
          · rw [if_neg c8] at H
            have c8b0 : ((Go.bits .and .u8 (rd l0 (ji4)) 64) == 0) = false := beq_eq_false_iff_ne.mpr c8
            have c8b1 : ((Go.bits .and .u8 (rd l0 (ji4)) 64) != 0) = true := bne_iff_ne.mpr c8
            (first | rw [c8b0] | (simp only [i64_w, i32_w]; rw [c8b0]) | skip)
            have H' := Aside0.mk H
            clear H
            go_wp2
            go_meet
            case rel => exact ⟨_, (decide (t145 < 10)), (by first | rfl | (simp; done) | (simp [*]; done)), H', ⟨by first | omega | exact Nat.le_refl _⟩, ⟨by repeat (first | (with_reducible first | exact HB.out | apply below_alloc | apply pw_below_drewN | apply below_drew1) | exact HB.out)⟩⟩
        case rest =>
          clear HC7
          try clear c1
          try clear p1
          try clear q1
          try clear hx1
          try clear p2
          try clear c3
          try clear c3b0
          try clear c3b1
          try clear c5
          try clear c5b0
          try clear c6
          try clear c6b0
          try clear p6
          try clear c8
          try clear c8b0
          try clear c8b1
          try clear hx147_0
          try clear p147
          try clear q147
          obtain ⟨kq, x29_6, rfl, HA, HJ6, HB⟩ := hcut
          cases kq with
          | zero => exact absurd HA.out (by simp [leb_TakeS.j0])
          | succ kj6 =>
            have H := HA.out
            clear HA
            simp only [leb_TakeS.j0] at H
            by_cases c9 : x29_6 = true
            · subst c9
              have H1 : (if 0 ≤ (wrap64 (7 * t145)) then (if t145 > 1 then (if (rd l0 (ji4)) = 0 then (if 0 ≤ (wrap64 (t145 - 2)) then (if (wrap64 (t145 - 2)) < (l0.length : Int) then (if (Go.bits .and .u8 (rd l0 (wrap64 (t145 - 2))) 64) = 0 then (some (0, ([] : List Int), 4)) else (if (rd l0 (ji4)) = 127 then (some (0, ([] : List Int), 4)) else (if t145 = 10 then (if 0 ≤ t145 then (if t145 ≤ (l0.length : Int) then ((slices_Clone_byte_byte.f (l0.drop (t145 : Int).toNat)).bind fun t151 => (some (wrap64 (Go.bits .or .u64 t144 (shl .u64 18446744073709551615 (wrap64 (7 * t145)))), t151, 0))) else (none)) else (none)) else (if 0 ≤ t145 then (if t145 ≤ (l0.length : Int) then ((slices_Clone_byte_byte.f (l0.drop (t145 : Int).toNat)).bind fun t155 => (some (wrap64 (Go.bits .or .u64 t144 (shl .u64 18446744073709551615 (wrap64 (7 * t145)))), t155, 0))) else (none)) else (none))))) else (none)) else (none)) else (if (rd l0 (ji4)) = 127 then (if 0 ≤ (wrap64 (t145 - 2)) then (if (wrap64 (t145 - 2)) < (l0.length : Int) then (if (Go.bits .and .u8 (rd l0 (wrap64 (t145 - 2))) 64) = 0 then (if t145 = 10 then (if 0 ≤ t145 then (if t145 ≤ (l0.length : Int) then ((slices_Clone_byte_byte.f (l0.drop (t145 : Int).toNat)).bind fun t160 => (some (wrap64 (Go.bits .or .u64 t144 (shl .u64 18446744073709551615 (wrap64 (7 * t145)))), t160, 0))) else (none)) else (none)) else (if 0 ≤ t145 then (if t145 ≤ (l0.length : Int) then ((slices_Clone_byte_byte.f (l0.drop (t145 : Int).toNat)).bind fun t164 => (some (wrap64 (Go.bits .or .u64 t144 (shl .u64 18446744073709551615 (wrap64 (7 * t145)))), t164, 0))) else (none)) else (none))) else (some (0, ([] : List Int), 4))) else (none)) else (none)) else (if t145 = 10 then (some (0, ([] : List Int), 4)) else (if 0 ≤ t145 then (if t145 ≤ (l0.length : Int) then ((slices_Clone_byte_byte.f (l0.drop (t145 : Int).toNat)).bind fun t168 => (some (wrap64 (Go.bits .or .u64 t144 (shl .u64 18446744073709551615 (wrap64 (7 * t145)))), t168, 0))) else (none)) else (none))))) else (if t145 = 10 then (if (rd l0 (ji4)) = 0 then (if 0 ≤ t145 then (if t145 ≤ (l0.length : Int) then ((slices_Clone_byte_byte.f (l0.drop (t145 : Int).toNat)).bind fun t172 => (some (wrap64 (Go.bits .or .u64 t144 (shl .u64 18446744073709551615 (wrap64 (7 * t145)))), t172, 0))) else (none)) else (none)) else (if (rd l0 (ji4)) = 127 then (if 0 ≤ t145 then (if t145 ≤ (l0.length : Int) then ((slices_Clone_byte_byte.f (l0.drop (t145 : Int).toNat)).bind fun t176 => (some (wrap64 (Go.bits .or .u64 t144 (shl .u64 18446744073709551615 (wrap64 (7 * t145)))), t176, 0))) else (none)) else (none)) else (some (0, ([] : List Int), 4)))) else (if 0 ≤ t145 then (if t145 ≤ (l0.length : Int) then ((slices_Clone_byte_byte.f (l0.drop (t145 : Int).toNat)).bind fun t180 => (some (wrap64 (Go.bits .or .u64 t144 (shl .u64 18446744073709551615 (wrap64 (7 * t145)))), t180, 0))) else (none)) else (none)))) else (none)) = some (r1, r2, r3) := by rw [if_pos rfl] at H; exact H
              clear H
              have H := H1
              clear H1
              obtain ⟨ji10, hji10⟩ : ∃ j_ : Int, (wrap64 (7 * t145)) = j_ := ⟨_, rfl⟩
              replace H : (if 0 ≤ (ji10) then (if t145 > 1 then (if (rd l0 (ji4)) = 0 then (if 0 ≤ (wrap64 (t145 - 2)) then (if (wrap64 (t145 - 2)) < (l0.length : Int) then (if (Go.bits .and .u8 (rd l0 (wrap64 (t145 - 2))) 64) = 0 then (some (0, ([] : List Int), 4)) else (if (rd l0 (ji4)) = 127 then (some (0, ([] : List Int), 4)) else (if t145 = 10 then (if 0 ≤ t145 then (if t145 ≤ (l0.length : Int) then ((slices_Clone_byte_byte.f (l0.drop (t145 : Int).toNat)).bind fun t151 => (some (wrap64 (Go.bits .or .u64 t144 (shl .u64 18446744073709551615 (ji10))), t151, 0))) else (none)) else (none)) else (if 0 ≤ t145 then (if t145 ≤ (l0.length : Int) then ((slices_Clone_byte_byte.f (l0.drop (t145 : Int).toNat)).bind fun t155 => (some (wrap64 (Go.bits .or .u64 t144 (shl .u64 18446744073709551615 (ji10))), t155, 0))) else (none)) else (none))))) else (none)) else (none)) else (if (rd l0 (ji4)) = 127 then (if 0 ≤ (wrap64 (t145 - 2)) then (if (wrap64 (t145 - 2)) < (l0.length : Int) then (if (Go.bits .and .u8 (rd l0 (wrap64 (t145 - 2))) 64) = 0 then (if t145 = 10 then (if 0 ≤ t145 then (if t145 ≤ (l0.length : Int) then ((slices_Clone_byte_byte.f (l0.drop (t145 : Int).toNat)).bind fun t160 => (some (wrap64 (Go.bits .or .u64 t144 (shl .u64 18446744073709551615 (ji10))), t160, 0))) else (none)) else (none)) else (if 0 ≤ t145 then (if t145 ≤ (l0.length : Int) then ((slices_Clone_byte_byte.f (l0.drop (t145 : Int).toNat)).bind fun t164 => (some (wrap64 (Go.bits .or .u64 t144 (shl .u64 18446744073709551615 (ji10))), t164, 0))) else (none)) else (none))) else (some (0, ([] : List Int), 4))) else (none)) else (none)) else (if t145 = 10 then (some (0, ([] : List Int), 4)) else (if 0 ≤ t145 then (if t145 ≤ (l0.length : Int) then ((slices_Clone_byte_byte.f (l0.drop (t145 : Int).toNat)).bind fun t168 => (some (wrap64 (Go.bits .or .u64 t144 (shl .u64 18446744073709551615 (ji10))), t168, 0))) else (none)) else (none))))) else (if t145 = 10 then (if (rd l0 (ji4)) = 0 then (if 0 ≤ t145 then (if t145 ≤ (l0.length : Int) then ((slices_Clone_byte_byte.f (l0.drop (t145 : Int).toNat)).bind fun t172 => (some (wrap64 (Go.bits .or .u64 t144 (shl .u64 18446744073709551615 (ji10))), t172, 0))) else (none)) else (none)) else (if (rd l0 (ji4)) = 127 then (if 0 ≤ t145 then (if t145 ≤ (l0.length : Int) then ((slices_Clone_byte_byte.f (l0.drop (t145 : Int).toNat)).bind fun t176 => (some (wrap64 (Go.bits .or .u64 t144 (shl .u64 18446744073709551615 (ji10))), t176, 0))) else (none)) else (none)) else (some (0, ([] : List Int), 4)))) else (if 0 ≤ t145 then (if t145 ≤ (l0.length : Int) then ((slices_Clone_byte_byte.f (l0.drop (t145 : Int).toNat)).bind fun t180 => (some (wrap64 (Go.bits .or .u64 t144 (shl .u64 18446744073709551615 (ji10))), t180, 0))) else (none)) else (none)))) else (none)) = some (r1, r2, r3) := by first | (rw [hji10] at H; exact H) | (simp only [hji10] at H ⊢; exact H)
              have hji10w : (IntKind.i64.wrap (7 * t145)) = ji10 := (i64_w _).trans hji10
              by_cases c11 : 0 ≤ (ji10)
              · rw [if_pos c11] at H
                have c11b0 := eq_true c11
                have c11b1 : decide (0 ≤ (ji10)) = true := decide_eq_true c11
                clear c11
                obtain ⟨ji12, hji12⟩ : ∃ j_ : Int, (shl .u64 18446744073709551615 (ji10)) = j_ := ⟨_, rfl⟩
                replace H : (if t145 > 1 then (if (rd l0 (ji4)) = 0 then (if 0 ≤ (wrap64 (t145 - 2)) then (if (wrap64 (t145 - 2)) < (l0.length : Int) then (if (Go.bits .and .u8 (rd l0 (wrap64 (t145 - 2))) 64) = 0 then (some (0, ([] : List Int), 4)) else (if (rd l0 (ji4)) = 127 then (some (0, ([] : List Int), 4)) else (if t145 = 10 then (if 0 ≤ t145 then (if t145 ≤ (l0.length : Int) then ((slices_Clone_byte_byte.f (l0.drop (t145 : Int).toNat)).bind fun t151 => (some (wrap64 (Go.bits .or .u64 t144 (ji12)), t151, 0))) else (none)) else (none)) else (if 0 ≤ t145 then (if t145 ≤ (l0.length : Int) then ((slices_Clone_byte_byte.f (l0.drop (t145 : Int).toNat)).bind fun t155 => (some (wrap64 (Go.bits .or .u64 t144 (ji12)), t155, 0))) else (none)) else (none))))) else (none)) else (none)) else (if (rd l0 (ji4)) = 127 then (if 0 ≤ (wrap64 (t145 - 2)) then (if (wrap64 (t145 - 2)) < (l0.length : Int) then (if (Go.bits .and .u8 (rd l0 (wrap64 (t145 - 2))) 64) = 0 then (if t145 = 10 then (if 0 ≤ t145 then (if t145 ≤ (l0.length : Int) then ((slices_Clone_byte_byte.f (l0.drop (t145 : Int).toNat)).bind fun t160 => (some (wrap64 (Go.bits .or .u64 t144 (ji12)), t160, 0))) else (none)) else (none)) else (if 0 ≤ t145 then (if t145 ≤ (l0.length : Int) then ((slices_Clone_byte_byte.f (l0.drop (t145 : Int).toNat)).bind fun t164 => (some (wrap64 (Go.bits .or .u64 t144 (ji12)), t164, 0))) else (none)) else (none))) else (some (0, ([] : List Int), 4))) else (none)) else (none)) else (if t145 = 10 then (some (0, ([] : List Int), 4)) else (if 0 ≤ t145 then (if t145 ≤ (l0.length : Int) then ((slices_Clone_byte_byte.f (l0.drop (t145 : Int).toNat)).bind fun t168 => (some (wrap64 (Go.bits .or .u64 t144 (ji12)), t168, 0))) else (none)) else (none))))) else (if t145 = 10 then (if (rd l0 (ji4)) = 0 then (if 0 ≤ t145 then (if t145 ≤ (l0.length : Int) then ((slices_Clone_byte_byte.f (l0.drop (t145 : Int).toNat)).bind fun t172 => (some (wrap64 (Go.bits .or .u64 t144 (ji12)), t172, 0))) else (none)) else (none)) else (if (rd l0 (ji4)) = 127 then (if 0 ≤ t145 then (if t145 ≤ (l0.length : Int) then ((slices_Clone_byte_byte.f (l0.drop (t145 : Int).toNat)).bind fun t176 => (some (wrap64 (Go.bits .or .u64 t144 (ji12)), t176, 0))) else (none)) else (none)) else (some (0, ([] : List Int), 4)))) else (if 0 ≤ t145 then (if t145 ≤ (l0.length : Int) then ((slices_Clone_byte_byte.f (l0.drop (t145 : Int).toNat)).bind fun t180 => (some (wrap64 (Go.bits .or .u64 t144 (ji12)), t180, 0))) else (none)) else (none)))) = some (r1, r2, r3) := by first | (rw [hji12] at H; exact H) | (simp only [hji12] at H ⊢; exact H)
                have hji12_ : (IntKind.u64.wrap (18446744073709551615 * 2 ^ min (ji10).toNat 64)) = ji12 := hji12
                have hji12z : (ji10) ≤ 64 → (IntKind.u64.wrap (18446744073709551615 * 2 ^ (ji10).toNat)) = ji12 := shl_small hji12
                by_cases c13 : t145 > 1
                · rw [if_pos c13] at H
                  have c13b0 : decide (1 < t145) = true := decide_eq_true c13
                  clear c13
                  by_cases c14 : (rd l0 (ji4)) = 0
                  · rw [if_pos c14] at H
                    have c14b0 : ((rd l0 (ji4)) == 0) = true := beq_iff_eq.mpr c14
                    have c14b1 : ((rd l0 (ji4)) != 0) = false := bne_eq_false_iff_eq.mpr c14
                    clear c14
                    obtain ⟨ji15, hji15⟩ : ∃ j_ : Int, (wrap64 (t145 - 2)) = j_ := ⟨_, rfl⟩
                    replace H : (if 0 ≤ (ji15) then (if (ji15) < (l0.length : Int) then (if (Go.bits .and .u8 (rd l0 (ji15)) 64) = 0 then (some (0, ([] : List Int), 4)) else (if (rd l0 (ji4)) = 127 then (some (0, ([] : List Int), 4)) else (if t145 = 10 then (if 0 ≤ t145 then (if t145 ≤ (l0.length : Int) then ((slices_Clone_byte_byte.f (l0.drop (t145 : Int).toNat)).bind fun t151 => (some (wrap64 (Go.bits .or .u64 t144 (ji12)), t151, 0))) else (none)) else (none)) else (if 0 ≤ t145 then (if t145 ≤ (l0.length : Int) then ((slices_Clone_byte_byte.f (l0.drop (t145 : Int).toNat)).bind fun t155 => (some (wrap64 (Go.bits .or .u64 t144 (ji12)), t155, 0))) else (none)) else (none))))) else (none)) else (none)) = some (r1, r2, r3) := by first | (rw [hji15] at H; exact H) | (simp only [hji15] at H ⊢; exact H)
                    have hji15w : (IntKind.i64.wrap (t145 - 2)) = ji15 := (i64_w _).trans hji15
                    by_cases c16 : 0 ≤ (ji15)
                    · rw [if_pos c16] at H
                      have c16b0 : decide (0 ≤ (ji15)) = true := decide_eq_true c16
                      clear c16
                      by_cases c17 : (ji15) < (l0.length : Int)
                      · rw [if_pos c17] at H
                        have c17b0 : decide ((ji15) < (l0.length : Int)) = true := decide_eq_true c17
                        clear c17
                        by_cases c18 : (Go.bits .and .u8 (rd l0 (ji15)) 64) = 0
                        · rw [if_pos c18] at H
                          have c18b0 : ((Go.bits .and .u8 (rd l0 (ji15)) 64) == 0) = true := beq_iff_eq.mpr c18
                          have c18b1 : ((Go.bits .and .u8 (rd l0 (ji15)) 64) != 0) = false := bne_eq_false_iff_eq.mpr c18
                          clear c18
                          simp only [Option.some.injEq, Prod.mk.injEq] at H
                          obtain ⟨rfl, rfl, rfl⟩ := H
                          have p148 : 0 ≤ ((ji15) : Int) := of_decide_eq_true (by first | (with_reducible assumption) | assumption)
                          have q148 : (ji15) < (l0.length : Int) := of_decide_eq_true (by first | (with_reducible assumption) | assumption)
                          obtain ⟨ad148, e148, hx148_0⟩ := Kd.at_int HR0.out (ji15) p148 q148
                          obtain rfl : ad147 = ad148 := (by injection e148)
                          replace hx148_0 := (HB.out.cell (World.block_lt_of_cell? w _ hx148_0)).trans hx148_0
                          replace p148 := eq_true p148
                          replace q148 := eq_true q148
                          go_wp2
                          go_ret3
                          exact ⟨_, by first | rfl | (simp [errW_none, errW_some] <;> rfl) | (simp only [← hji4, ← hji10, ← hji12, ← hji15]; first | rfl | (simp [errW_none, errW_some] <;> rfl)) | (simp [*, errW_none, errW_some] <;> rfl), by first | exact Kd.R_nil _ _ _ _ _ | exact Kd.N_nil _ _ _ _ _ | exact Kd.V_nil _ _ _ _ _ | exact Kd.Q_nil _ _ _ _ _ | exact Kd.S_nil _ _ _ _ _, by repeat (first | (with_reducible first | exact HB.out | apply below_alloc | apply pw_below_drewN | apply below_drew1) | exact HB.out)⟩
                        · rw [if_neg c18] at H
                          have c18b0 : ((Go.bits .and .u8 (rd l0 (ji15)) 64) == 0) = false := beq_eq_false_iff_ne.mpr c18
                          have c18b1 : ((Go.bits .and .u8 (rd l0 (ji15)) 64) != 0) = true := bne_iff_ne.mpr c18
                          by_cases c19 : (rd l0 (ji4)) = 127
                          · rw [if_pos c19] at H
                            have c19b0 : ((rd l0 (ji4)) == 127) = true := beq_iff_eq.mpr c19
                            have c19b1 : ((rd l0 (ji4)) != 127) = false := bne_eq_false_iff_eq.mpr c19
                            clear c19
                            simp only [Option.some.injEq, Prod.mk.injEq] at H
                            obtain ⟨rfl, rfl, rfl⟩ := H
                            have p148 : 0 ≤ ((ji15) : Int) := of_decide_eq_true (by first | (with_reducible assumption) | assumption)
                            have q148 : (ji15) < (l0.length : Int) := of_decide_eq_true (by first | (with_reducible assumption) | assumption)
                            obtain ⟨ad148, e148, hx148_0⟩ := Kd.at_int HR0.out (ji15) p148 q148
                            obtain rfl : ad147 = ad148 := (by injection e148)
                            replace hx148_0 := (HB.out.cell (World.block_lt_of_cell? w _ hx148_0)).trans hx148_0
                            replace p148 := eq_true p148
                            replace q148 := eq_true q148
                            have p149 : 0 ≤ ((ji15) : Int) := of_decide_eq_true (by first | (with_reducible assumption) | assumption)
                            have q149 : (ji15) < (l0.length : Int) := of_decide_eq_true (by first | (with_reducible assumption) | assumption)
                            obtain ⟨ad149, e149, hx149_0⟩ := Kd.at_int HR0.out (ji15) p149 q149
                            obtain rfl : ad147 = ad149 := (by injection e149)
                            replace hx149_0 := (HB.out.cell (World.block_lt_of_cell? w _ hx149_0)).trans hx149_0
                            replace p149 := eq_true p149
                            replace q149 := eq_true q149
                            go_wp2
                            go_ret3
                            exact ⟨_, by first | rfl | (simp [errW_none, errW_some] <;> rfl) | (simp only [← hji4, ← hji10, ← hji12, ← hji15]; first | rfl | (simp [errW_none, errW_some] <;> rfl)) | (simp [*, errW_none, errW_some] <;> rfl), by first | exact Kd.R_nil _ _ _ _ _ | exact Kd.N_nil _ _ _ _ _ | exact Kd.V_nil _ _ _ _ _ | exact Kd.Q_nil _ _ _ _ _ | exact Kd.S_nil _ _ _ _ _, by repeat (first | (with_reducible first | exact HB.out | apply below_alloc | apply pw_below_drewN | apply below_drew1) | exact HB.out)⟩
                          · rw [if_neg c19] at H
                            have c19b0 : ((rd l0 (ji4)) == 127) = false := beq_eq_false_iff_ne.mpr c19
                            have c19b1 : ((rd l0 (ji4)) != 127) = true := bne_iff_ne.mpr c19
                            by_cases c20 : t145 = 10
                            · rw [if_pos c20] at H
                              have c20b0 : (t145 == 10) = true := beq_iff_eq.mpr c20
                              have c20b1 : (t145 != 10) = false := bne_eq_false_iff_eq.mpr c20
                              clear c20
                              by_cases c21 : 0 ≤ t145
                              · rw [if_pos c21] at H
                                have c21b0 := eq_true c21
                                have c21b1 : decide (0 ≤ t145) = true := decide_eq_true c21
                                clear c21
                                by_cases c22 : t145 ≤ (l0.length : Int)
                                · rw [if_pos c22] at H
                                  have c22b0 := eq_true c22
                                  have c22b1 : decide (t145 ≤ (l0.length : Int)) = true := decide_eq_true c22
                                  clear c22
                                  replace H := Option.bind_eq_some_iff.mp H
                                  obtain ⟨t151, A230, H⟩ := H
                                  replace H : (some (wrap64 (Go.bits .or .u64 t144 (ji12)), t151, 0)) = some (r1, r2, r3) := H
                                  have A23 := Aside0.mk A230
                                  clear A230
                                  simp only [Option.some.injEq, Prod.mk.injEq] at H
                                  obtain ⟨rfl, rfl, rfl⟩ := H
                                  have p148 : 0 ≤ ((ji15) : Int) := of_decide_eq_true (by first | (with_reducible assumption) | assumption)
                                  have q148 : (ji15) < (l0.length : Int) := of_decide_eq_true (by first | (with_reducible assumption) | assumption)
                                  obtain ⟨ad148, e148, hx148_0⟩ := Kd.at_int HR0.out (ji15) p148 q148
                                  obtain rfl : ad147 = ad148 := (by injection e148)
                                  replace hx148_0 := (HB.out.cell (World.block_lt_of_cell? w _ hx148_0)).trans hx148_0
                                  replace p148 := eq_true p148
                                  replace q148 := eq_true q148
                                  obtain ⟨i024, hi024, _, hsz24, _⟩ := info_parts info5
                                  obtain ⟨A24, hcut24, hA24, hC24⟩ := print_drop_of (P := Tryd.prog) (Value.int .u8) 0 22 5 .i64 Tryd.underlying22 hi024 hsz24 (some ad147) c0 l0 t145 (of_decide_eq_true (by first | (with_reducible assumption) | assumption)) (of_decide_eq_true (by first | (with_reducible assumption) | assumption)) HC0.out
                                  have HR150 := Aside0.mk (Kd.C_of_reads (h1 := fun _ => rfl) (hA24 _ (Kd.reads_of_C HR0.out)))
                                  have HC150 := Aside0.mk hC24
                                  clear hA24 hC24 hi024 hsz24
                                  go_wp2_with (first | ((with_reducible refine gate_callee (f := 37) rfl ?_); refine goesL_ (some 81) rfl rfl Tryd.func37 (by kernel_rfl) rfl #[.slice A24 (l0.drop (t145 : Int).toNat).length (c0 - t145.toNat)] rfl (by (try simp only [List.map_toArray, List.map_cons, List.map_nil]); first | done | (rw [show (l0.drop (t145 : Int).toNat).length = (l0.length - t145.toNat) from List.length_drop] <;> rfl) | rfl | (simp only [List.length_drop, List.length_take]; rfl)) ?_; (with_reducible refine (slices_Clone_byte_byte.calls _ _ (l0.drop (t145 : Int).toNat) t151 _ ?side1 ?side2 A23.out).mono ?_); (case side1 => repeat (first | exact (Kd.C_below HR150.out HB.out) | (with_reducible refine Kd.C_alloc ?_ _) | (with_reducible refine Kd.C_drewN ?_ _) | (with_reducible refine Kd.C_drew ?_))); (case side2 => exact HC150.out); rintro e w25 ⟨v152, rfl, ho0, hb⟩; refine ⟨_, rfl, ?_⟩; have n0_ := Aside0.mk (Kd.R_lower ho0 (below_size (by repeat (first | (with_reducible first | exact HB.out | apply below_alloc | apply pw_below_drewN | apply below_drew1) | exact HB.out)))); have n1_ := Aside0.mk (below_step (by repeat (first | (with_reducible first | exact HB.out | apply below_alloc | apply pw_below_drewN | apply below_drew1) | exact HB.out)) hb); clear HB; have HO153 := n0_; have HB := n1_; clear n0_ n1_; (try clear hb); (try clear hb2); (try clear hk); (try clear hi); (try clear ho0)))
                                  go_ret3
                                  exact ⟨_, by first | rfl | (simp [errW_none, errW_some] <;> rfl) | (simp only [← hji4, ← hji10, ← hji12, ← hji15]; first | rfl | (simp [errW_none, errW_some] <;> rfl)) | (simp [*, errW_none, errW_some] <;> rfl), by (with_reducible repeat (first | apply Kd.R_alloc | apply Kd.R_drewN | apply Kd.R_drew)); exact HO153.out, by repeat (first | (with_reducible first | exact HB.out | apply below_alloc | apply pw_below_drewN | apply below_drew1) | exact HB.out)⟩
                                · rw [if_neg c22] at H
                                  exact absurd H (by simp)
                              · rw [if_neg c21] at H
                                exact absurd H (by simp)
                            · rw [if_neg c20] at H
                              have c20b0 : (t145 == 10) = false := beq_eq_false_iff_ne.mpr c20
                              have c20b1 : (t145 != 10) = true := bne_iff_ne.mpr c20
                              by_cases c26 : 0 ≤ t145
                              · rw [if_pos c26] at H
                                have c26b0 := eq_true c26
                                have c26b1 : decide (0 ≤ t145) = true := decide_eq_true c26
                                clear c26
                                by_cases c27 : t145 ≤ (l0.length : Int)
                                · rw [if_pos c27] at H
                                  have c27b0 := eq_true c27
                                  have c27b1 : decide (t145 ≤ (l0.length : Int)) = true := decide_eq_true c27
                                  clear c27
                                  replace H := Option.bind_eq_some_iff.mp H
                                  obtain ⟨t155, A280, H⟩ := H
                                  replace H : (some (wrap64 (Go.bits .or .u64 t144 (ji12)), t155, 0)) = some (r1, r2, r3) := H
                                  have A28 := Aside0.mk A280
                                  clear A280
                                  simp only [Option.some.injEq, Prod.mk.injEq] at H
                                  obtain ⟨rfl, rfl, rfl⟩ := H
                                  have p148 : 0 ≤ ((ji15) : Int) := of_decide_eq_true (by first | (with_reducible assumption) | assumption)
                                  have q148 : (ji15) < (l0.length : Int) := of_decide_eq_true (by first | (with_reducible assumption) | assumption)
                                  obtain ⟨ad148, e148, hx148_0⟩ := Kd.at_int HR0.out (ji15) p148 q148
                                  obtain rfl : ad147 = ad148 := (by injection e148)
                                  replace hx148_0 := (HB.out.cell (World.block_lt_of_cell? w _ hx148_0)).trans hx148_0
                                  replace p148 := eq_true p148
                                  replace q148 := eq_true q148
                                  obtain ⟨i029, hi029, _, hsz29, _⟩ := info_parts info5
                                  obtain ⟨A29, hcut29, hA29, hC29⟩ := print_drop_of (P := Tryd.prog) (Value.int .u8) 0 22 5 .i64 Tryd.underlying22 hi029 hsz29 (some ad147) c0 l0 t145 (of_decide_eq_true (by first | (with_reducible assumption) | assumption)) (of_decide_eq_true (by first | (with_reducible assumption) | assumption)) HC0.out
                                  have HR154 := Aside0.mk (Kd.C_of_reads (h1 := fun _ => rfl) (hA29 _ (Kd.reads_of_C HR0.out)))
                                  have HC154 := Aside0.mk hC29
                                  clear hA29 hC29 hi029 hsz29
                                  go_wp2_with (first | ((with_reducible refine gate_callee (f := 37) rfl ?_); refine goesL_ (some 81) rfl rfl Tryd.func37 (by kernel_rfl) rfl #[.slice A29 (l0.drop (t145 : Int).toNat).length (c0 - t145.toNat)] rfl (by (try simp only [List.map_toArray, List.map_cons, List.map_nil]); first | done | (rw [show (l0.drop (t145 : Int).toNat).length = (l0.length - t145.toNat) from List.length_drop] <;> rfl) | rfl | (simp only [List.length_drop, List.length_take]; rfl)) ?_; (with_reducible refine (slices_Clone_byte_byte.calls _ _ (l0.drop (t145 : Int).toNat) t155 _ ?side1 ?side2 A28.out).mono ?_); (case side1 => repeat (first | exact (Kd.C_below HR154.out HB.out) | (with_reducible refine Kd.C_alloc ?_ _) | (with_reducible refine Kd.C_drewN ?_ _) | (with_reducible refine Kd.C_drew ?_))); (case side2 => exact HC154.out); rintro e w30 ⟨v156, rfl, ho0, hb⟩; refine ⟨_, rfl, ?_⟩; have n0_ := Aside0.mk (Kd.R_lower ho0 (below_size (by repeat (first | (with_reducible first | exact HB.out | apply below_alloc | apply pw_below_drewN | apply below_drew1) | exact HB.out)))); have n1_ := Aside0.mk (below_step (by repeat (first | (with_reducible first | exact HB.out | apply below_alloc | apply pw_below_drewN | apply below_drew1) | exact HB.out)) hb); clear HB; have HO157 := n0_; have HB := n1_; clear n0_ n1_; (try clear hb); (try clear hb2); (try clear hk); (try clear hi); (try clear ho0)))
                                  go_ret3
                                  exact ⟨_, by first | rfl | (simp [errW_none, errW_some] <;> rfl) | (simp only [← hji4, ← hji10, ← hji12, ← hji15]; first | rfl | (simp [errW_none, errW_some] <;> rfl)) | (simp [*, errW_none, errW_some] <;> rfl), by (with_reducible repeat (first | apply Kd.R_alloc | apply Kd.R_drewN | apply Kd.R_drew)); exact HO157.out, by repeat (first | (with_reducible first | exact HB.out | apply below_alloc | apply pw_below_drewN | apply below_drew1) | exact HB.out)⟩
                                · rw [if_neg c27] at H
                                  exact absurd H (by simp)
                              · rw [if_neg c26] at H
                                exact absurd H (by simp)
                      · rw [if_neg c17] at H
                        exact absurd H (by simp)
                    · rw [if_neg c16] at H
                      exact absurd H (by simp)
                  · rw [if_neg c14] at H
                    have c14b0 : ((rd l0 (ji4)) == 0) = false := beq_eq_false_iff_ne.mpr c14
                    have c14b1 : ((rd l0 (ji4)) != 0) = true := bne_iff_ne.mpr c14
                    by_cases c31 : (rd l0 (ji4)) = 127
                    · rw [if_pos c31] at H
                      have c31b0 : ((rd l0 (ji4)) == 127) = true := beq_iff_eq.mpr c31
                      have c31b1 : ((rd l0 (ji4)) != 127) = false := bne_eq_false_iff_eq.mpr c31
                      clear c31
                      obtain ⟨ji32, hji32⟩ : ∃ j_ : Int, (wrap64 (t145 - 2)) = j_ := ⟨_, rfl⟩
                      replace H : (if 0 ≤ (ji32) then (if (ji32) < (l0.length : Int) then (if (Go.bits .and .u8 (rd l0 (ji32)) 64) = 0 then (if t145 = 10 then (if 0 ≤ t145 then (if t145 ≤ (l0.length : Int) then ((slices_Clone_byte_byte.f (l0.drop (t145 : Int).toNat)).bind fun t160 => (some (wrap64 (Go.bits .or .u64 t144 (ji12)), t160, 0))) else (none)) else (none)) else (if 0 ≤ t145 then (if t145 ≤ (l0.length : Int) then ((slices_Clone_byte_byte.f (l0.drop (t145 : Int).toNat)).bind fun t164 => (some (wrap64 (Go.bits .or .u64 t144 (ji12)), t164, 0))) else (none)) else (none))) else (some (0, ([] : List Int), 4))) else (none)) else (none)) = some (r1, r2, r3) := by first | (rw [hji32] at H; exact H) | (simp only [hji32] at H ⊢; exact H)
                      have hji32w : (IntKind.i64.wrap (t145 - 2)) = ji32 := (i64_w _).trans hji32
                      by_cases c33 : 0 ≤ (ji32)
                      · rw [if_pos c33] at H
                        have c33b0 : decide (0 ≤ (ji32)) = true := decide_eq_true c33
                        clear c33
                        by_cases c34 : (ji32) < (l0.length : Int)
                        · rw [if_pos c34] at H
                          have c34b0 : decide ((ji32) < (l0.length : Int)) = true := decide_eq_true c34
                          clear c34
                          by_cases c35 : (Go.bits .and .u8 (rd l0 (ji32)) 64) = 0
                          · rw [if_pos c35] at H
                            have c35b0 : ((Go.bits .and .u8 (rd l0 (ji32)) 64) == 0) = true := beq_iff_eq.mpr c35
                            have c35b1 : ((Go.bits .and .u8 (rd l0 (ji32)) 64) != 0) = false := bne_eq_false_iff_eq.mpr c35
                            clear c35
                            by_cases c36 : t145 = 10
                            · rw [if_pos c36] at H
                              have c36b0 : (t145 == 10) = true := beq_iff_eq.mpr c36
                              have c36b1 : (t145 != 10) = false := bne_eq_false_iff_eq.mpr c36
                              clear c36
                              by_cases c37 : 0 ≤ t145
                              · rw [if_pos c37] at H
                                have c37b0 := eq_true c37
                                have c37b1 : decide (0 ≤ t145) = true := decide_eq_true c37
                                clear c37
                                by_cases c38 : t145 ≤ (l0.length : Int)
                                · rw [if_pos c38] at H
                                  have c38b0 := eq_true c38
                                  have c38b1 : decide (t145 ≤ (l0.length : Int)) = true := decide_eq_true c38
                                  clear c38
                                  replace H := Option.bind_eq_some_iff.mp H
                                  obtain ⟨t160, A390, H⟩ := H
                                  replace H : (some (wrap64 (Go.bits .or .u64 t144 (ji12)), t160, 0)) = some (r1, r2, r3) := H
                                  have A39 := Aside0.mk A390
                                  clear A390
                                  simp only [Option.some.injEq, Prod.mk.injEq] at H
                                  obtain ⟨rfl, rfl, rfl⟩ := H
                                  have p158 : 0 ≤ ((ji32) : Int) := of_decide_eq_true (by first | (with_reducible assumption) | assumption)
                                  have q158 : (ji32) < (l0.length : Int) := of_decide_eq_true (by first | (with_reducible assumption) | assumption)
                                  obtain ⟨ad158, e158, hx158_0⟩ := Kd.at_int HR0.out (ji32) p158 q158
                                  obtain rfl : ad147 = ad158 := (by injection e158)
                                  replace hx158_0 := (HB.out.cell (World.block_lt_of_cell? w _ hx158_0)).trans hx158_0
                                  replace p158 := eq_true p158
                                  replace q158 := eq_true q158
                                  obtain ⟨i040, hi040, _, hsz40, _⟩ := info_parts info5
                                  obtain ⟨A40, hcut40, hA40, hC40⟩ := print_drop_of (P := Tryd.prog) (Value.int .u8) 0 22 5 .i64 Tryd.underlying22 hi040 hsz40 (some ad147) c0 l0 t145 (of_decide_eq_true (by first | (with_reducible assumption) | assumption)) (of_decide_eq_true (by first | (with_reducible assumption) | assumption)) HC0.out
                                  have HR159 := Aside0.mk (Kd.C_of_reads (h1 := fun _ => rfl) (hA40 _ (Kd.reads_of_C HR0.out)))
                                  have HC159 := Aside0.mk hC40
                                  clear hA40 hC40 hi040 hsz40
                                  go_wp2_with (first | ((with_reducible refine gate_callee (f := 37) rfl ?_); refine goesL_ (some 81) rfl rfl Tryd.func37 (by kernel_rfl) rfl #[.slice A40 (l0.drop (t145 : Int).toNat).length (c0 - t145.toNat)] rfl (by (try simp only [List.map_toArray, List.map_cons, List.map_nil]); first | done | (rw [show (l0.drop (t145 : Int).toNat).length = (l0.length - t145.toNat) from List.length_drop] <;> rfl) | rfl | (simp only [List.length_drop, List.length_take]; rfl)) ?_; (with_reducible refine (slices_Clone_byte_byte.calls _ _ (l0.drop (t145 : Int).toNat) t160 _ ?side1 ?side2 A39.out).mono ?_); (case side1 => repeat (first | exact (Kd.C_below HR159.out HB.out) | (with_reducible refine Kd.C_alloc ?_ _) | (with_reducible refine Kd.C_drewN ?_ _) | (with_reducible refine Kd.C_drew ?_))); (case side2 => exact HC159.out); rintro e w41 ⟨v161, rfl, ho0, hb⟩; refine ⟨_, rfl, ?_⟩; have n0_ := Aside0.mk (Kd.R_lower ho0 (below_size (by repeat (first | (with_reducible first | exact HB.out | apply below_alloc | apply pw_below_drewN | apply below_drew1) | exact HB.out)))); have n1_ := Aside0.mk (below_step (by repeat (first | (with_reducible first | exact HB.out | apply below_alloc | apply pw_below_drewN | apply below_drew1) | exact HB.out)) hb); clear HB; have HO162 := n0_; have HB := n1_; clear n0_ n1_; (try clear hb); (try clear hb2); (try clear hk); (try clear hi); (try clear ho0)))
                                  go_ret3
                                  exact ⟨_, by first | rfl | (simp [errW_none, errW_some] <;> rfl) | (simp only [← hji4, ← hji10, ← hji12, ← hji32]; first | rfl | (simp [errW_none, errW_some] <;> rfl)) | (simp [*, errW_none, errW_some] <;> rfl), by (with_reducible repeat (first | apply Kd.R_alloc | apply Kd.R_drewN | apply Kd.R_drew)); exact HO162.out, by repeat (first | (with_reducible first | exact HB.out | apply below_alloc | apply pw_below_drewN | apply below_drew1) | exact HB.out)⟩
                                · rw [if_neg c38] at H
                                  exact absurd H (by simp)
                              · rw [if_neg c37] at H
                                exact absurd H (by simp)
                            · rw [if_neg c36] at H
                              have c36b0 : (t145 == 10) = false := beq_eq_false_iff_ne.mpr c36
                              have c36b1 : (t145 != 10) = true := bne_iff_ne.mpr c36
                              by_cases c42 : 0 ≤ t145
                              · rw [if_pos c42] at H
                                have c42b0 := eq_true c42
                                have c42b1 : decide (0 ≤ t145) = true := decide_eq_true c42
                                clear c42
                                by_cases c43 : t145 ≤ (l0.length : Int)
                                · rw [if_pos c43] at H
                                  have c43b0 := eq_true c43
                                  have c43b1 : decide (t145 ≤ (l0.length : Int)) = true := decide_eq_true c43
                                  clear c43
                                  replace H := Option.bind_eq_some_iff.mp H
                                  obtain ⟨t164, A440, H⟩ := H
                                  replace H : (some (wrap64 (Go.bits .or .u64 t144 (ji12)), t164, 0)) = some (r1, r2, r3) := H
                                  have A44 := Aside0.mk A440
                                  clear A440
                                  simp only [Option.some.injEq, Prod.mk.injEq] at H
                                  obtain ⟨rfl, rfl, rfl⟩ := H
                                  have p158 : 0 ≤ ((ji32) : Int) := of_decide_eq_true (by first | (with_reducible assumption) | assumption)
                                  have q158 : (ji32) < (l0.length : Int) := of_decide_eq_true (by first | (with_reducible assumption) | assumption)
                                  obtain ⟨ad158, e158, hx158_0⟩ := Kd.at_int HR0.out (ji32) p158 q158
                                  obtain rfl : ad147 = ad158 := (by injection e158)
                                  replace hx158_0 := (HB.out.cell (World.block_lt_of_cell? w _ hx158_0)).trans hx158_0
                                  replace p158 := eq_true p158
                                  replace q158 := eq_true q158
                                  obtain ⟨i045, hi045, _, hsz45, _⟩ := info_parts info5
                                  obtain ⟨A45, hcut45, hA45, hC45⟩ := print_drop_of (P := Tryd.prog) (Value.int .u8) 0 22 5 .i64 Tryd.underlying22 hi045 hsz45 (some ad147) c0 l0 t145 (of_decide_eq_true (by first | (with_reducible assumption) | assumption)) (of_decide_eq_true (by first | (with_reducible assumption) | assumption)) HC0.out
                                  have HR163 := Aside0.mk (Kd.C_of_reads (h1 := fun _ => rfl) (hA45 _ (Kd.reads_of_C HR0.out)))
                                  have HC163 := Aside0.mk hC45
                                  clear hA45 hC45 hi045 hsz45
                                  go_wp2_with (first | ((with_reducible refine gate_callee (f := 37) rfl ?_); refine goesL_ (some 81) rfl rfl Tryd.func37 (by kernel_rfl) rfl #[.slice A45 (l0.drop (t145 : Int).toNat).length (c0 - t145.toNat)] rfl (by (try simp only [List.map_toArray, List.map_cons, List.map_nil]); first | done | (rw [show (l0.drop (t145 : Int).toNat).length = (l0.length - t145.toNat) from List.length_drop] <;> rfl) | rfl | (simp only [List.length_drop, List.length_take]; rfl)) ?_; (with_reducible refine (slices_Clone_byte_byte.calls _ _ (l0.drop (t145 : Int).toNat) t164 _ ?side1 ?side2 A44.out).mono ?_); (case side1 => repeat (first | exact (Kd.C_below HR163.out HB.out) | (with_reducible refine Kd.C_alloc ?_ _) | (with_reducible refine Kd.C_drewN ?_ _) | (with_reducible refine Kd.C_drew ?_))); (case side2 => exact HC163.out); rintro e w46 ⟨v165, rfl, ho0, hb⟩; refine ⟨_, rfl, ?_⟩; have n0_ := Aside0.mk (Kd.R_lower ho0 (below_size (by repeat (first | (with_reducible first | exact HB.out | apply below_alloc | apply pw_below_drewN | apply below_drew1) | exact HB.out)))); have n1_ := Aside0.mk (below_step (by repeat (first | (with_reducible first | exact HB.out | apply below_alloc | apply pw_below_drewN | apply below_drew1) | exact HB.out)) hb); clear HB; have HO166 := n0_; have HB := n1_; clear n0_ n1_; (try clear hb); (try clear hb2); (try clear hk); (try clear hi); (try clear ho0)))
                                  go_ret3
                                  exact ⟨_, by first | rfl | (simp [errW_none, errW_some] <;> rfl) | (simp only [← hji4, ← hji10, ← hji12, ← hji32]; first | rfl | (simp [errW_none, errW_some] <;> rfl)) | (simp [*, errW_none, errW_some] <;> rfl), by (with_reducible repeat (first | apply Kd.R_alloc | apply Kd.R_drewN | apply Kd.R_drew)); exact HO166.out, by repeat (first | (with_reducible first | exact HB.out | apply below_alloc | apply pw_below_drewN | apply below_drew1) | exact HB.out)⟩
                                · rw [if_neg c43] at H
                                  exact absurd H (by simp)
                              · rw [if_neg c42] at H
                                exact absurd H (by simp)
                          · rw [if_neg c35] at H
                            have c35b0 : ((Go.bits .and .u8 (rd l0 (ji32)) 64) == 0) = false := beq_eq_false_iff_ne.mpr c35
                            have c35b1 : ((Go.bits .and .u8 (rd l0 (ji32)) 64) != 0) = true := bne_iff_ne.mpr c35
                            simp only [Option.some.injEq, Prod.mk.injEq] at H
                            obtain ⟨rfl, rfl, rfl⟩ := H
                            have p158 : 0 ≤ ((ji32) : Int) := of_decide_eq_true (by first | (with_reducible assumption) | assumption)
                            have q158 : (ji32) < (l0.length : Int) := of_decide_eq_true (by first | (with_reducible assumption) | assumption)
                            obtain ⟨ad158, e158, hx158_0⟩ := Kd.at_int HR0.out (ji32) p158 q158
                            obtain rfl : ad147 = ad158 := (by injection e158)
                            replace hx158_0 := (HB.out.cell (World.block_lt_of_cell? w _ hx158_0)).trans hx158_0
                            replace p158 := eq_true p158
                            replace q158 := eq_true q158
                            go_wp2
                            go_ret3
                            exact ⟨_, by first | rfl | (simp [errW_none, errW_some] <;> rfl) | (simp only [← hji4, ← hji10, ← hji12, ← hji32]; first | rfl | (simp [errW_none, errW_some] <;> rfl)) | (simp [*, errW_none, errW_some] <;> rfl), by first | exact Kd.R_nil _ _ _ _ _ | exact Kd.N_nil _ _ _ _ _ | exact Kd.V_nil _ _ _ _ _ | exact Kd.Q_nil _ _ _ _ _ | exact Kd.S_nil _ _ _ _ _, by repeat (first | (with_reducible first | exact HB.out | apply below_alloc | apply pw_below_drewN | apply below_drew1) | exact HB.out)⟩
                        · rw [if_neg c34] at H
                          exact absurd H (by simp)
                      · rw [if_neg c33] at H
                        exact absurd H (by simp)
                    · rw [if_neg c31] at H
                      have c31b0 : ((rd l0 (ji4)) == 127) = false := beq_eq_false_iff_ne.mpr c31
                      have c31b1 : ((rd l0 (ji4)) != 127) = true := bne_iff_ne.mpr c31
                      by_cases c47 : t145 = 10
                      · rw [if_pos c47] at H
                        have c47b0 : (t145 == 10) = true := beq_iff_eq.mpr c47
                        have c47b1 : (t145 != 10) = false := bne_eq_false_iff_eq.mpr c47
                        clear c47
                        simp only [Option.some.injEq, Prod.mk.injEq] at H
                        obtain ⟨rfl, rfl, rfl⟩ := H
                        go_wp2
                        go_ret3
                        exact ⟨_, by first | rfl | (simp [errW_none, errW_some] <;> rfl) | (simp only [← hji4, ← hji10, ← hji12]; first | rfl | (simp [errW_none, errW_some] <;> rfl)) | (simp [*, errW_none, errW_some] <;> rfl), by first | exact Kd.R_nil _ _ _ _ _ | exact Kd.N_nil _ _ _ _ _ | exact Kd.V_nil _ _ _ _ _ | exact Kd.Q_nil _ _ _ _ _ | exact Kd.S_nil _ _ _ _ _, by repeat (first | (with_reducible first | exact HB.out | apply below_alloc | apply pw_below_drewN | apply below_drew1) | exact HB.out)⟩
                      · rw [if_neg c47] at H
                        have c47b0 : (t145 == 10) = false := beq_eq_false_iff_ne.mpr c47
                        have c47b1 : (t145 != 10) = true := bne_iff_ne.mpr c47
                        by_cases c48 : 0 ≤ t145
                        · rw [if_pos c48] at H
                          have c48b0 := eq_true c48
                          have c48b1 : decide (0 ≤ t145) = true := decide_eq_true c48
                          clear c48
                          by_cases c49 : t145 ≤ (l0.length : Int)
                          · rw [if_pos c49] at H
                            have c49b0 := eq_true c49
                            have c49b1 : decide (t145 ≤ (l0.length : Int)) = true := decide_eq_true c49
                            clear c49
                            replace H := Option.bind_eq_some_iff.mp H
                            obtain ⟨t168, A500, H⟩ := H
                            replace H : (some (wrap64 (Go.bits .or .u64 t144 (ji12)), t168, 0)) = some (r1, r2, r3) := H
                            have A50 := Aside0.mk A500
                            clear A500
                            simp only [Option.some.injEq, Prod.mk.injEq] at H
                            obtain ⟨rfl, rfl, rfl⟩ := H
                            obtain ⟨i051, hi051, _, hsz51, _⟩ := info_parts info5
                            obtain ⟨A51, hcut51, hA51, hC51⟩ := print_drop_of (P := Tryd.prog) (Value.int .u8) 0 22 5 .i64 Tryd.underlying22 hi051 hsz51 (some ad147) c0 l0 t145 (of_decide_eq_true (by first | (with_reducible assumption) | assumption)) (of_decide_eq_true (by first | (with_reducible assumption) | assumption)) HC0.out
                            have HR167 := Aside0.mk (Kd.C_of_reads (h1 := fun _ => rfl) (hA51 _ (Kd.reads_of_C HR0.out)))
                            have HC167 := Aside0.mk hC51
                            clear hA51 hC51 hi051 hsz51
                            go_wp2_with (first | ((with_reducible refine gate_callee (f := 37) rfl ?_); refine goesL_ (some 81) rfl rfl Tryd.func37 (by kernel_rfl) rfl #[.slice A51 (l0.drop (t145 : Int).toNat).length (c0 - t145.toNat)] rfl (by (try simp only [List.map_toArray, List.map_cons, List.map_nil]); first | done | (rw [show (l0.drop (t145 : Int).toNat).length = (l0.length - t145.toNat) from List.length_drop] <;> rfl) | rfl | (simp only [List.length_drop, List.length_take]; rfl)) ?_; (with_reducible refine (slices_Clone_byte_byte.calls _ _ (l0.drop (t145 : Int).toNat) t168 _ ?side1 ?side2 A50.out).mono ?_); (case side1 => repeat (first | exact (Kd.C_below HR167.out HB.out) | (with_reducible refine Kd.C_alloc ?_ _) | (with_reducible refine Kd.C_drewN ?_ _) | (with_reducible refine Kd.C_drew ?_))); (case side2 => exact HC167.out); rintro e w52 ⟨v169, rfl, ho0, hb⟩; refine ⟨_, rfl, ?_⟩; have n0_ := Aside0.mk (Kd.R_lower ho0 (below_size (by repeat (first | (with_reducible first | exact HB.out | apply below_alloc | apply pw_below_drewN | apply below_drew1) | exact HB.out)))); have n1_ := Aside0.mk (below_step (by repeat (first | (with_reducible first | exact HB.out | apply below_alloc | apply pw_below_drewN | apply below_drew1) | exact HB.out)) hb); clear HB; have HO170 := n0_; have HB := n1_; clear n0_ n1_; (try clear hb); (try clear hb2); (try clear hk); (try clear hi); (try clear ho0)))
                            go_ret3
                            exact ⟨_, by first | rfl | (simp [errW_none, errW_some] <;> rfl) | (simp only [← hji4, ← hji10, ← hji12]; first | rfl | (simp [errW_none, errW_some] <;> rfl)) | (simp [*, errW_none, errW_some] <;> rfl), by (with_reducible repeat (first | apply Kd.R_alloc | apply Kd.R_drewN | apply Kd.R_drew)); exact HO170.out, by repeat (first | (with_reducible first | exact HB.out | apply below_alloc | apply pw_below_drewN | apply below_drew1) | exact HB.out)⟩
                          · rw [if_neg c49] at H
                            exact absurd H (by simp)
                        · rw [if_neg c48] at H
                          exact absurd H (by simp)
                · rw [if_neg c13] at H
                  have c13b0 : decide (1 < t145) = false := decide_eq_false c13
                  clear c13
                  by_cases c53 : t145 = 10
                  · rw [if_pos c53] at H
                    have c53b0 : (t145 == 10) = true := beq_iff_eq.mpr c53
                    have c53b1 : (t145 != 10) = false := bne_eq_false_iff_eq.mpr c53
                    clear c53
                    by_cases c54 : (rd l0 (ji4)) = 0
                    · rw [if_pos c54] at H
                      have c54b0 : ((rd l0 (ji4)) == 0) = true := beq_iff_eq.mpr c54
                      have c54b1 : ((rd l0 (ji4)) != 0) = false := bne_eq_false_iff_eq.mpr c54
                      clear c54
                      by_cases c55 : 0 ≤ t145
                      · rw [if_pos c55] at H
                        have c55b0 := eq_true c55
                        have c55b1 : decide (0 ≤ t145) = true := decide_eq_true c55
                        clear c55
                        by_cases c56 : t145 ≤ (l0.length : Int)
                        · rw [if_pos c56] at H
                          have c56b0 := eq_true c56
                          have c56b1 : decide (t145 ≤ (l0.length : Int)) = true := decide_eq_true c56
                          clear c56
                          replace H := Option.bind_eq_some_iff.mp H
                          obtain ⟨t172, A570, H⟩ := H
                          replace H : (some (wrap64 (Go.bits .or .u64 t144 (ji12)), t172, 0)) = some (r1, r2, r3) := H
                          have A57 := Aside0.mk A570
                          clear A570
                          simp only [Option.some.injEq, Prod.mk.injEq] at H
                          obtain ⟨rfl, rfl, rfl⟩ := H
                          obtain ⟨i058, hi058, _, hsz58, _⟩ := info_parts info5
                          obtain ⟨A58, hcut58, hA58, hC58⟩ := print_drop_of (P := Tryd.prog) (Value.int .u8) 0 22 5 .i64 Tryd.underlying22 hi058 hsz58 (some ad147) c0 l0 t145 (of_decide_eq_true (by first | (with_reducible assumption) | assumption)) (of_decide_eq_true (by first | (with_reducible assumption) | assumption)) HC0.out
                          have HR171 := Aside0.mk (Kd.C_of_reads (h1 := fun _ => rfl) (hA58 _ (Kd.reads_of_C HR0.out)))
                          have HC171 := Aside0.mk hC58
                          clear hA58 hC58 hi058 hsz58
                          go_wp2_with (first | ((with_reducible refine gate_callee (f := 37) rfl ?_); refine goesL_ (some 81) rfl rfl Tryd.func37 (by kernel_rfl) rfl #[.slice A58 (l0.drop (t145 : Int).toNat).length (c0 - t145.toNat)] rfl (by (try simp only [List.map_toArray, List.map_cons, List.map_nil]); first | done | (rw [show (l0.drop (t145 : Int).toNat).length = (l0.length - t145.toNat) from List.length_drop] <;> rfl) | rfl | (simp only [List.length_drop, List.length_take]; rfl)) ?_; (with_reducible refine (slices_Clone_byte_byte.calls _ _ (l0.drop (t145 : Int).toNat) t172 _ ?side1 ?side2 A57.out).mono ?_); (case side1 => repeat (first | exact (Kd.C_below HR171.out HB.out) | (with_reducible refine Kd.C_alloc ?_ _) | (with_reducible refine Kd.C_drewN ?_ _) | (with_reducible refine Kd.C_drew ?_))); (case side2 => exact HC171.out); rintro e w59 ⟨v173, rfl, ho0, hb⟩; refine ⟨_, rfl, ?_⟩; have n0_ := Aside0.mk (Kd.R_lower ho0 (below_size (by repeat (first | (with_reducible first | exact HB.out | apply below_alloc | apply pw_below_drewN | apply below_drew1) | exact HB.out)))); have n1_ := Aside0.mk (below_step (by repeat (first | (with_reducible first | exact HB.out | apply below_alloc | apply pw_below_drewN | apply below_drew1) | exact HB.out)) hb); clear HB; have HO174 := n0_; have HB := n1_; clear n0_ n1_; (try clear hb); (try clear hb2); (try clear hk); (try clear hi); (try clear ho0)))
                          go_ret3
                          exact ⟨_, by first | rfl | (simp [errW_none, errW_some] <;> rfl) | (simp only [← hji4, ← hji10, ← hji12]; first | rfl | (simp [errW_none, errW_some] <;> rfl)) | (simp [*, errW_none, errW_some] <;> rfl), by (with_reducible repeat (first | apply Kd.R_alloc | apply Kd.R_drewN | apply Kd.R_drew)); exact HO174.out, by repeat (first | (with_reducible first | exact HB.out | apply below_alloc | apply pw_below_drewN | apply below_drew1) | exact HB.out)⟩
                        · rw [if_neg c56] at H
                          exact absurd H (by simp)
                      · rw [if_neg c55] at H
                        exact absurd H (by simp)
                    · rw [if_neg c54] at H
                      have c54b0 : ((rd l0 (ji4)) == 0) = false := beq_eq_false_iff_ne.mpr c54
                      have c54b1 : ((rd l0 (ji4)) != 0) = true := bne_iff_ne.mpr c54
                      by_cases c60 : (rd l0 (ji4)) = 127
                      · rw [if_pos c60] at H
                        have c60b0 : ((rd l0 (ji4)) == 127) = true := beq_iff_eq.mpr c60
                        have c60b1 : ((rd l0 (ji4)) != 127) = false := bne_eq_false_iff_eq.mpr c60
                        clear c60
                        by_cases c61 : 0 ≤ t145
                        · rw [if_pos c61] at H
                          have c61b0 := eq_true c61
                          have c61b1 : decide (0 ≤ t145) = true := decide_eq_true c61
                          clear c61
                          by_cases c62 : t145 ≤ (l0.length : Int)
                          · rw [if_pos c62] at H
                            have c62b0 := eq_true c62
                            have c62b1 : decide (t145 ≤ (l0.length : Int)) = true := decide_eq_true c62
                            clear c62
                            replace H := Option.bind_eq_some_iff.mp H
                            obtain ⟨t176, A630, H⟩ := H
                            replace H : (some (wrap64 (Go.bits .or .u64 t144 (ji12)), t176, 0)) = some (r1, r2, r3) := H
                            have A63 := Aside0.mk A630
                            clear A630
                            simp only [Option.some.injEq, Prod.mk.injEq] at H
                            obtain ⟨rfl, rfl, rfl⟩ := H
                            obtain ⟨i064, hi064, _, hsz64, _⟩ := info_parts info5
                            obtain ⟨A64, hcut64, hA64, hC64⟩ := print_drop_of (P := Tryd.prog) (Value.int .u8) 0 22 5 .i64 Tryd.underlying22 hi064 hsz64 (some ad147) c0 l0 t145 (of_decide_eq_true (by first | (with_reducible assumption) | assumption)) (of_decide_eq_true (by first | (with_reducible assumption) | assumption)) HC0.out
                            have HR175 := Aside0.mk (Kd.C_of_reads (h1 := fun _ => rfl) (hA64 _ (Kd.reads_of_C HR0.out)))
                            have HC175 := Aside0.mk hC64
                            clear hA64 hC64 hi064 hsz64
                            go_wp2_with (first | ((with_reducible refine gate_callee (f := 37) rfl ?_); refine goesL_ (some 81) rfl rfl Tryd.func37 (by kernel_rfl) rfl #[.slice A64 (l0.drop (t145 : Int).toNat).length (c0 - t145.toNat)] rfl (by (try simp only [List.map_toArray, List.map_cons, List.map_nil]); first | done | (rw [show (l0.drop (t145 : Int).toNat).length = (l0.length - t145.toNat) from List.length_drop] <;> rfl) | rfl | (simp only [List.length_drop, List.length_take]; rfl)) ?_; (with_reducible refine (slices_Clone_byte_byte.calls _ _ (l0.drop (t145 : Int).toNat) t176 _ ?side1 ?side2 A63.out).mono ?_); (case side1 => repeat (first | exact (Kd.C_below HR175.out HB.out) | (with_reducible refine Kd.C_alloc ?_ _) | (with_reducible refine Kd.C_drewN ?_ _) | (with_reducible refine Kd.C_drew ?_))); (case side2 => exact HC175.out); rintro e w65 ⟨v177, rfl, ho0, hb⟩; refine ⟨_, rfl, ?_⟩; have n0_ := Aside0.mk (Kd.R_lower ho0 (below_size (by repeat (first | (with_reducible first | exact HB.out | apply below_alloc | apply pw_below_drewN | apply below_drew1) | exact HB.out)))); have n1_ := Aside0.mk (below_step (by repeat (first | (with_reducible first | exact HB.out | apply below_alloc | apply pw_below_drewN | apply below_drew1) | exact HB.out)) hb); clear HB; have HO178 := n0_; have HB := n1_; clear n0_ n1_; (try clear hb); (try clear hb2); (try clear hk); (try clear hi); (try clear ho0)))
                            go_ret3
                            exact ⟨_, by first | rfl | (simp [errW_none, errW_some] <;> rfl) | (simp only [← hji4, ← hji10, ← hji12]; first | rfl | (simp [errW_none, errW_some] <;> rfl)) | (simp [*, errW_none, errW_some] <;> rfl), by (with_reducible repeat (first | apply Kd.R_alloc | apply Kd.R_drewN | apply Kd.R_drew)); exact HO178.out, by repeat (first | (with_reducible first | exact HB.out | apply below_alloc | apply pw_below_drewN | apply below_drew1) | exact HB.out)⟩
                          · rw [if_neg c62] at H
                            exact absurd H (by simp)
                        · rw [if_neg c61] at H
                          exact absurd H (by simp)
                      · rw [if_neg c60] at H
                        have c60b0 : ((rd l0 (ji4)) == 127) = false := beq_eq_false_iff_ne.mpr c60
                        have c60b1 : ((rd l0 (ji4)) != 127) = true := bne_iff_ne.mpr c60
                        simp only [Option.some.injEq, Prod.mk.injEq] at H
                        obtain ⟨rfl, rfl, rfl⟩ := H
                        go_wp2
                        go_ret3
                        exact ⟨_, by first | rfl | (simp [errW_none, errW_some] <;> rfl) | (simp only [← hji4, ← hji10, ← hji12]; first | rfl | (simp [errW_none, errW_some] <;> rfl)) | (simp [*, errW_none, errW_some] <;> rfl), by first | exact Kd.R_nil _ _ _ _ _ | exact Kd.N_nil _ _ _ _ _ | exact Kd.V_nil _ _ _ _ _ | exact Kd.Q_nil _ _ _ _ _ | exact Kd.S_nil _ _ _ _ _, by repeat (first | (with_reducible first | exact HB.out | apply below_alloc | apply pw_below_drewN | apply below_drew1) | exact HB.out)⟩
                  · rw [if_neg c53] at H
                    have c53b0 : (t145 == 10) = false := beq_eq_false_iff_ne.mpr c53
                    have c53b1 : (t145 != 10) = true := bne_iff_ne.mpr c53
                    by_cases c66 : 0 ≤ t145
                    · rw [if_pos c66] at H
                      have c66b0 := eq_true c66
                      have c66b1 : decide (0 ≤ t145) = true := decide_eq_true c66
                      clear c66
                      by_cases c67 : t145 ≤ (l0.length : Int)
                      · rw [if_pos c67] at H
                        have c67b0 := eq_true c67
                        have c67b1 : decide (t145 ≤ (l0.length : Int)) = true := decide_eq_true c67
                        clear c67
                        replace H := Option.bind_eq_some_iff.mp H
                        obtain ⟨t180, A680, H⟩ := H
                        replace H : (some (wrap64 (Go.bits .or .u64 t144 (ji12)), t180, 0)) = some (r1, r2, r3) := H
                        have A68 := Aside0.mk A680
                        clear A680
                        simp only [Option.some.injEq, Prod.mk.injEq] at H
                        obtain ⟨rfl, rfl, rfl⟩ := H
                        obtain ⟨i069, hi069, _, hsz69, _⟩ := info_parts info5
                        obtain ⟨A69, hcut69, hA69, hC69⟩ := print_drop_of (P := Tryd.prog) (Value.int .u8) 0 22 5 .i64 Tryd.underlying22 hi069 hsz69 (some ad147) c0 l0 t145 (of_decide_eq_true (by first | (with_reducible assumption) | assumption)) (of_decide_eq_true (by first | (with_reducible assumption) | assumption)) HC0.out
                        have HR179 := Aside0.mk (Kd.C_of_reads (h1 := fun _ => rfl) (hA69 _ (Kd.reads_of_C HR0.out)))
                        have HC179 := Aside0.mk hC69
                        clear hA69 hC69 hi069 hsz69
                        go_wp2_with (first | ((with_reducible refine gate_callee (f := 37) rfl ?_); refine goesL_ (some 81) rfl rfl Tryd.func37 (by kernel_rfl) rfl #[.slice A69 (l0.drop (t145 : Int).toNat).length (c0 - t145.toNat)] rfl (by (try simp only [List.map_toArray, List.map_cons, List.map_nil]); first | done | (rw [show (l0.drop (t145 : Int).toNat).length = (l0.length - t145.toNat) from List.length_drop] <;> rfl) | rfl | (simp only [List.length_drop, List.length_take]; rfl)) ?_; (with_reducible refine (slices_Clone_byte_byte.calls _ _ (l0.drop (t145 : Int).toNat) t180 _ ?side1 ?side2 A68.out).mono ?_); (case side1 => repeat (first | exact (Kd.C_below HR179.out HB.out) | (with_reducible refine Kd.C_alloc ?_ _) | (with_reducible refine Kd.C_drewN ?_ _) | (with_reducible refine Kd.C_drew ?_))); (case side2 => exact HC179.out); rintro e w70 ⟨v181, rfl, ho0, hb⟩; refine ⟨_, rfl, ?_⟩; have n0_ := Aside0.mk (Kd.R_lower ho0 (below_size (by repeat (first | (with_reducible first | exact HB.out | apply below_alloc | apply pw_below_drewN | apply below_drew1) | exact HB.out)))); have n1_ := Aside0.mk (below_step (by repeat (first | (with_reducible first | exact HB.out | apply below_alloc | apply pw_below_drewN | apply below_drew1) | exact HB.out)) hb); clear HB; have HO182 := n0_; have HB := n1_; clear n0_ n1_; (try clear hb); (try clear hb2); (try clear hk); (try clear hi); (try clear ho0)))
                        go_ret3
                        exact ⟨_, by first | rfl | (simp [errW_none, errW_some] <;> rfl) | (simp only [← hji4, ← hji10, ← hji12]; first | rfl | (simp [errW_none, errW_some] <;> rfl)) | (simp [*, errW_none, errW_some] <;> rfl), by (with_reducible repeat (first | apply Kd.R_alloc | apply Kd.R_drewN | apply Kd.R_drew)); exact HO182.out, by repeat (first | (with_reducible first | exact HB.out | apply below_alloc | apply pw_below_drewN | apply below_drew1) | exact HB.out)⟩
                      · rw [if_neg c67] at H
                        exact absurd H (by simp)
                    · rw [if_neg c66] at H
                      exact absurd H (by simp)
              · rw [if_neg c11] at H
                exact absurd H (by simp)
            · replace c9 := Bool.eq_false_iff.mpr c9
              subst c9
              have H1 : (if t145 > 1 then (if (rd l0 (ji4)) = 0 then (if 0 ≤ (wrap64 (t145 - 2)) then (if (wrap64 (t145 - 2)) < (l0.length : Int) then (if (Go.bits .and .u8 (rd l0 (wrap64 (t145 - 2))) 64) = 0 then (some (0, ([] : List Int), 4)) else (if (rd l0 (ji4)) = 127 then (some (0, ([] : List Int), 4)) else (if t145 = 10 then (if 0 ≤ t145 then (if t145 ≤ (l0.length : Int) then ((slices_Clone_byte_byte.f (l0.drop (t145 : Int).toNat)).bind fun t186 => (some (wrap64 (t144), t186, 0))) else (none)) else (none)) else (if 0 ≤ t145 then (if t145 ≤ (l0.length : Int) then ((slices_Clone_byte_byte.f (l0.drop (t145 : Int).toNat)).bind fun t190 => (some (wrap64 (t144), t190, 0))) else (none)) else (none))))) else (none)) else (none)) else (if (rd l0 (ji4)) = 127 then (if 0 ≤ (wrap64 (t145 - 2)) then (if (wrap64 (t145 - 2)) < (l0.length : Int) then (if (Go.bits .and .u8 (rd l0 (wrap64 (t145 - 2))) 64) = 0 then (if t145 = 10 then (if 0 ≤ t145 then (if t145 ≤ (l0.length : Int) then ((slices_Clone_byte_byte.f (l0.drop (t145 : Int).toNat)).bind fun t195 => (some (wrap64 (t144), t195, 0))) else (none)) else (none)) else (if 0 ≤ t145 then (if t145 ≤ (l0.length : Int) then ((slices_Clone_byte_byte.f (l0.drop (t145 : Int).toNat)).bind fun t199 => (some (wrap64 (t144), t199, 0))) else (none)) else (none))) else (some (0, ([] : List Int), 4))) else (none)) else (none)) else (if t145 = 10 then (some (0, ([] : List Int), 4)) else (if 0 ≤ t145 then (if t145 ≤ (l0.length : Int) then ((slices_Clone_byte_byte.f (l0.drop (t145 : Int).toNat)).bind fun t203 => (some (wrap64 (t144), t203, 0))) else (none)) else (none))))) else (if t145 = 10 then (if (rd l0 (ji4)) = 0 then (if 0 ≤ t145 then (if t145 ≤ (l0.length : Int) then ((slices_Clone_byte_byte.f (l0.drop (t145 : Int).toNat)).bind fun t207 => (some (wrap64 (t144), t207, 0))) else (none)) else (none)) else (if (rd l0 (ji4)) = 127 then (if 0 ≤ t145 then (if t145 ≤ (l0.length : Int) then ((slices_Clone_byte_byte.f (l0.drop (t145 : Int).toNat)).bind fun t211 => (some (wrap64 (t144), t211, 0))) else (none)) else (none)) else (some (0, ([] : List Int), 4)))) else (if 0 ≤ t145 then (if t145 ≤ (l0.length : Int) then ((slices_Clone_byte_byte.f (l0.drop (t145 : Int).toNat)).bind fun t215 => (some (wrap64 (t144), t215, 0))) else (none)) else (none)))) = some (r1, r2, r3) := by rw [if_neg (show ¬ (false = true) by decide)] at H; exact H
              clear H
              have H := H1
              clear H1
              by_cases c71 : t145 > 1
              · rw [if_pos c71] at H
                have c71b0 : decide (1 < t145) = true := decide_eq_true c71
                clear c71
                by_cases c72 : (rd l0 (ji4)) = 0
                · rw [if_pos c72] at H
                  have c72b0 : ((rd l0 (ji4)) == 0) = true := beq_iff_eq.mpr c72
                  have c72b1 : ((rd l0 (ji4)) != 0) = false := bne_eq_false_iff_eq.mpr c72
                  clear c72
                  obtain ⟨ji73, hji73⟩ : ∃ j_ : Int, (wrap64 (t145 - 2)) = j_ := ⟨_, rfl⟩
                  replace H : (if 0 ≤ (ji73) then (if (ji73) < (l0.length : Int) then (if (Go.bits .and .u8 (rd l0 (ji73)) 64) = 0 then (some (0, ([] : List Int), 4)) else (if (rd l0 (ji4)) = 127 then (some (0, ([] : List Int), 4)) else (if t145 = 10 then (if 0 ≤ t145 then (if t145 ≤ (l0.length : Int) then ((slices_Clone_byte_byte.f (l0.drop (t145 : Int).toNat)).bind fun t186 => (some (wrap64 (t144), t186, 0))) else (none)) else (none)) else (if 0 ≤ t145 then (if t145 ≤ (l0.length : Int) then ((slices_Clone_byte_byte.f (l0.drop (t145 : Int).toNat)).bind fun t190 => (some (wrap64 (t144), t190, 0))) else (none)) else (none))))) else (none)) else (none)) = some (r1, r2, r3) := by first | (rw [hji73] at H; exact H) | (simp only [hji73] at H ⊢; exact H)
                  have hji73w : (IntKind.i64.wrap (t145 - 2)) = ji73 := (i64_w _).trans hji73
                  by_cases c74 : 0 ≤ (ji73)
                  · rw [if_pos c74] at H
                    have c74b0 : decide (0 ≤ (ji73)) = true := decide_eq_true c74
                    clear c74
                    by_cases c75 : (ji73) < (l0.length : Int)
                    · rw [if_pos c75] at H
                      have c75b0 : decide ((ji73) < (l0.length : Int)) = true := decide_eq_true c75
                      clear c75
                      by_cases c76 : (Go.bits .and .u8 (rd l0 (ji73)) 64) = 0
                      · rw [if_pos c76] at H
                        have c76b0 : ((Go.bits .and .u8 (rd l0 (ji73)) 64) == 0) = true := beq_iff_eq.mpr c76
                        have c76b1 : ((Go.bits .and .u8 (rd l0 (ji73)) 64) != 0) = false := bne_eq_false_iff_eq.mpr c76
                        clear c76
                        simp only [Option.some.injEq, Prod.mk.injEq] at H
                        obtain ⟨rfl, rfl, rfl⟩ := H
                        have p183 : 0 ≤ ((ji73) : Int) := of_decide_eq_true (by first | (with_reducible assumption) | assumption)
                        have q183 : (ji73) < (l0.length : Int) := of_decide_eq_true (by first | (with_reducible assumption) | assumption)
                        obtain ⟨ad183, e183, hx183_0⟩ := Kd.at_int HR0.out (ji73) p183 q183
                        obtain rfl : ad147 = ad183 := (by injection e183)
                        replace hx183_0 := (HB.out.cell (World.block_lt_of_cell? w _ hx183_0)).trans hx183_0
                        replace p183 := eq_true p183
                        replace q183 := eq_true q183
                        go_wp2
                        go_ret3
                        exact ⟨_, by first | rfl | (simp [errW_none, errW_some] <;> rfl) | (simp only [← hji4, ← hji73]; first | rfl | (simp [errW_none, errW_some] <;> rfl)) | (simp [*, errW_none, errW_some] <;> rfl), by first | exact Kd.R_nil _ _ _ _ _ | exact Kd.N_nil _ _ _ _ _ | exact Kd.V_nil _ _ _ _ _ | exact Kd.Q_nil _ _ _ _ _ | exact Kd.S_nil _ _ _ _ _, by repeat (first | (with_reducible first | exact HB.out | apply below_alloc | apply pw_below_drewN | apply below_drew1) | exact HB.out)⟩
                      · rw [if_neg c76] at H
                        have c76b0 : ((Go.bits .and .u8 (rd l0 (ji73)) 64) == 0) = false := beq_eq_false_iff_ne.mpr c76
                        have c76b1 : ((Go.bits .and .u8 (rd l0 (ji73)) 64) != 0) = true := bne_iff_ne.mpr c76
                        by_cases c77 : (rd l0 (ji4)) = 127
                        · rw [if_pos c77] at H
                          have c77b0 : ((rd l0 (ji4)) == 127) = true := beq_iff_eq.mpr c77
                          have c77b1 : ((rd l0 (ji4)) != 127) = false := bne_eq_false_iff_eq.mpr c77
                          clear c77
                          simp only [Option.some.injEq, Prod.mk.injEq] at H
                          obtain ⟨rfl, rfl, rfl⟩ := H
                          have p183 : 0 ≤ ((ji73) : Int) := of_decide_eq_true (by first | (with_reducible assumption) | assumption)
                          have q183 : (ji73) < (l0.length : Int) := of_decide_eq_true (by first | (with_reducible assumption) | assumption)
                          obtain ⟨ad183, e183, hx183_0⟩ := Kd.at_int HR0.out (ji73) p183 q183
                          obtain rfl : ad147 = ad183 := (by injection e183)
                          replace hx183_0 := (HB.out.cell (World.block_lt_of_cell? w _ hx183_0)).trans hx183_0
                          replace p183 := eq_true p183
                          replace q183 := eq_true q183
                          have p184 : 0 ≤ ((ji73) : Int) := of_decide_eq_true (by first | (with_reducible assumption) | assumption)
                          have q184 : (ji73) < (l0.length : Int) := of_decide_eq_true (by first | (with_reducible assumption) | assumption)
                          obtain ⟨ad184, e184, hx184_0⟩ := Kd.at_int HR0.out (ji73) p184 q184
                          obtain rfl : ad147 = ad184 := (by injection e184)
                          replace hx184_0 := (HB.out.cell (World.block_lt_of_cell? w _ hx184_0)).trans hx184_0
                          replace p184 := eq_true p184
                          replace q184 := eq_true q184
                          go_wp2
                          go_ret3
                          exact ⟨_, by first | rfl | (simp [errW_none, errW_some] <;> rfl) | (simp only [← hji4, ← hji73]; first | rfl | (simp [errW_none, errW_some] <;> rfl)) | (simp [*, errW_none, errW_some] <;> rfl), by first | exact Kd.R_nil _ _ _ _ _ | exact Kd.N_nil _ _ _ _ _ | exact Kd.V_nil _ _ _ _ _ | exact Kd.Q_nil _ _ _ _ _ | exact Kd.S_nil _ _ _ _ _, by repeat (first | (with_reducible first | exact HB.out | apply below_alloc | apply pw_below_drewN | apply below_drew1) | exact HB.out)⟩
                        · rw [if_neg c77] at H
                          have c77b0 : ((rd l0 (ji4)) == 127) = false := beq_eq_false_iff_ne.mpr c77
                          have c77b1 : ((rd l0 (ji4)) != 127) = true := bne_iff_ne.mpr c77
                          by_cases c78 : t145 = 10
                          · rw [if_pos c78] at H
                            have c78b0 : (t145 == 10) = true := beq_iff_eq.mpr c78
                            have c78b1 : (t145 != 10) = false := bne_eq_false_iff_eq.mpr c78
                            clear c78
                            by_cases c79 : 0 ≤ t145
                            · rw [if_pos c79] at H
                              have c79b0 := eq_true c79
                              have c79b1 : decide (0 ≤ t145) = true := decide_eq_true c79
                              clear c79
                              by_cases c80 : t145 ≤ (l0.length : Int)
                              · rw [if_pos c80] at H
                                have c80b0 := eq_true c80
                                have c80b1 : decide (t145 ≤ (l0.length : Int)) = true := decide_eq_true c80
                                clear c80
                                replace H := Option.bind_eq_some_iff.mp H
                                obtain ⟨t186, A810, H⟩ := H
                                replace H : (some (wrap64 (t144), t186, 0)) = some (r1, r2, r3) := H
                                have A81 := Aside0.mk A810
                                clear A810
                                simp only [Option.some.injEq, Prod.mk.injEq] at H
                                obtain ⟨rfl, rfl, rfl⟩ := H
                                have p183 : 0 ≤ ((ji73) : Int) := of_decide_eq_true (by first | (with_reducible assumption) | assumption)
                                have q183 : (ji73) < (l0.length : Int) := of_decide_eq_true (by first | (with_reducible assumption) | assumption)
                                obtain ⟨ad183, e183, hx183_0⟩ := Kd.at_int HR0.out (ji73) p183 q183
                                obtain rfl : ad147 = ad183 := (by injection e183)
                                replace hx183_0 := (HB.out.cell (World.block_lt_of_cell? w _ hx183_0)).trans hx183_0
                                replace p183 := eq_true p183
                                replace q183 := eq_true q183
                                obtain ⟨i082, hi082, _, hsz82, _⟩ := info_parts info5
                                obtain ⟨A82, hcut82, hA82, hC82⟩ := print_drop_of (P := Tryd.prog) (Value.int .u8) 0 22 5 .i64 Tryd.underlying22 hi082 hsz82 (some ad147) c0 l0 t145 (of_decide_eq_true (by first | (with_reducible assumption) | assumption)) (of_decide_eq_true (by first | (with_reducible assumption) | assumption)) HC0.out
                                have HR185 := Aside0.mk (Kd.C_of_reads (h1 := fun _ => rfl) (hA82 _ (Kd.reads_of_C HR0.out)))
                                have HC185 := Aside0.mk hC82
                                clear hA82 hC82 hi082 hsz82
                                go_wp2_with (first | ((with_reducible refine gate_callee (f := 37) rfl ?_); refine goesL_ (some 81) rfl rfl Tryd.func37 (by kernel_rfl) rfl #[.slice A82 (l0.drop (t145 : Int).toNat).length (c0 - t145.toNat)] rfl (by (try simp only [List.map_toArray, List.map_cons, List.map_nil]); first | done | (rw [show (l0.drop (t145 : Int).toNat).length = (l0.length - t145.toNat) from List.length_drop] <;> rfl) | rfl | (simp only [List.length_drop, List.length_take]; rfl)) ?_; (with_reducible refine (slices_Clone_byte_byte.calls _ _ (l0.drop (t145 : Int).toNat) t186 _ ?side1 ?side2 A81.out).mono ?_); (case side1 => repeat (first | exact (Kd.C_below HR185.out HB.out) | (with_reducible refine Kd.C_alloc ?_ _) | (with_reducible refine Kd.C_drewN ?_ _) | (with_reducible refine Kd.C_drew ?_))); (case side2 => exact HC185.out); rintro e w83 ⟨v187, rfl, ho0, hb⟩; refine ⟨_, rfl, ?_⟩; have n0_ := Aside0.mk (Kd.R_lower ho0 (below_size (by repeat (first | (with_reducible first | exact HB.out | apply below_alloc | apply pw_below_drewN | apply below_drew1) | exact HB.out)))); have n1_ := Aside0.mk (below_step (by repeat (first | (with_reducible first | exact HB.out | apply below_alloc | apply pw_below_drewN | apply below_drew1) | exact HB.out)) hb); clear HB; have HO188 := n0_; have HB := n1_; clear n0_ n1_; (try clear hb); (try clear hb2); (try clear hk); (try clear hi); (try clear ho0)))
                                go_ret3
                                exact ⟨_, by first | rfl | (simp [errW_none, errW_some] <;> rfl) | (simp only [← hji4, ← hji73]; first | rfl | (simp [errW_none, errW_some] <;> rfl)) | (simp [*, errW_none, errW_some] <;> rfl), by (with_reducible repeat (first | apply Kd.R_alloc | apply Kd.R_drewN | apply Kd.R_drew)); exact HO188.out, by repeat (first | (with_reducible first | exact HB.out | apply below_alloc | apply pw_below_drewN | apply below_drew1) | exact HB.out)⟩
                              · rw [if_neg c80] at H
                                exact absurd H (by simp)
                            · rw [if_neg c79] at H
                              exact absurd H (by simp)
                          · rw [if_neg c78] at H
                            have c78b0 : (t145 == 10) = false := beq_eq_false_iff_ne.mpr c78
                            have c78b1 : (t145 != 10) = true := bne_iff_ne.mpr c78
                            by_cases c84 : 0 ≤ t145
                            · rw [if_pos c84] at H
                              have c84b0 := eq_true c84
                              have c84b1 : decide (0 ≤ t145) = true := decide_eq_true c84
                              clear c84
                              by_cases c85 : t145 ≤ (l0.length : Int)
                              · rw [if_pos c85] at H
                                have c85b0 := eq_true c85
                                have c85b1 : decide (t145 ≤ (l0.length : Int)) = true := decide_eq_true c85
                                clear c85
                                replace H := Option.bind_eq_some_iff.mp H
                                obtain ⟨t190, A860, H⟩ := H
                                replace H : (some (wrap64 (t144), t190, 0)) = some (r1, r2, r3) := H
                                have A86 := Aside0.mk A860
                                clear A860
                                simp only [Option.some.injEq, Prod.mk.injEq] at H
                                obtain ⟨rfl, rfl, rfl⟩ := H
                                have p183 : 0 ≤ ((ji73) : Int) := of_decide_eq_true (by first | (with_reducible assumption) | assumption)
                                have q183 : (ji73) < (l0.length : Int) := of_decide_eq_true (by first | (with_reducible assumption) | assumption)
                                obtain ⟨ad183, e183, hx183_0⟩ := Kd.at_int HR0.out (ji73) p183 q183
                                obtain rfl : ad147 = ad183 := (by injection e183)
                                replace hx183_0 := (HB.out.cell (World.block_lt_of_cell? w _ hx183_0)).trans hx183_0
                                replace p183 := eq_true p183
                                replace q183 := eq_true q183
                                obtain ⟨i087, hi087, _, hsz87, _⟩ := info_parts info5
                                obtain ⟨A87, hcut87, hA87, hC87⟩ := print_drop_of (P := Tryd.prog) (Value.int .u8) 0 22 5 .i64 Tryd.underlying22 hi087 hsz87 (some ad147) c0 l0 t145 (of_decide_eq_true (by first | (with_reducible assumption) | assumption)) (of_decide_eq_true (by first | (with_reducible assumption) | assumption)) HC0.out
                                have HR189 := Aside0.mk (Kd.C_of_reads (h1 := fun _ => rfl) (hA87 _ (Kd.reads_of_C HR0.out)))
                                have HC189 := Aside0.mk hC87
                                clear hA87 hC87 hi087 hsz87
                                go_wp2_with (first | ((with_reducible refine gate_callee (f := 37) rfl ?_); refine goesL_ (some 81) rfl rfl Tryd.func37 (by kernel_rfl) rfl #[.slice A87 (l0.drop (t145 : Int).toNat).length (c0 - t145.toNat)] rfl (by (try simp only [List.map_toArray, List.map_cons, List.map_nil]); first | done | (rw [show (l0.drop (t145 : Int).toNat).length = (l0.length - t145.toNat) from List.length_drop] <;> rfl) | rfl | (simp only [List.length_drop, List.length_take]; rfl)) ?_; (with_reducible refine (slices_Clone_byte_byte.calls _ _ (l0.drop (t145 : Int).toNat) t190 _ ?side1 ?side2 A86.out).mono ?_); (case side1 => repeat (first | exact (Kd.C_below HR189.out HB.out) | (with_reducible refine Kd.C_alloc ?_ _) | (with_reducible refine Kd.C_drewN ?_ _) | (with_reducible refine Kd.C_drew ?_))); (case side2 => exact HC189.out); rintro e w88 ⟨v191, rfl, ho0, hb⟩; refine ⟨_, rfl, ?_⟩; have n0_ := Aside0.mk (Kd.R_lower ho0 (below_size (by repeat (first | (with_reducible first | exact HB.out | apply below_alloc | apply pw_below_drewN | apply below_drew1) | exact HB.out)))); have n1_ := Aside0.mk (below_step (by repeat (first | (with_reducible first | exact HB.out | apply below_alloc | apply pw_below_drewN | apply below_drew1) | exact HB.out)) hb); clear HB; have HO192 := n0_; have HB := n1_; clear n0_ n1_; (try clear hb); (try clear hb2); (try clear hk); (try clear hi); (try clear ho0)))
                                go_ret3
                                exact ⟨_, by first | rfl | (simp [errW_none, errW_some] <;> rfl) | (simp only [← hji4, ← hji73]; first | rfl | (simp [errW_none, errW_some] <;> rfl)) | (simp [*, errW_none, errW_some] <;> rfl), by (with_reducible repeat (first | apply Kd.R_alloc | apply Kd.R_drewN | apply Kd.R_drew)); exact HO192.out, by repeat (first | (with_reducible first | exact HB.out | apply below_alloc | apply pw_below_drewN | apply below_drew1) | exact HB.out)⟩
                              · rw [if_neg c85] at H
                                exact absurd H (by simp)
                            · rw [if_neg c84] at H
                              exact absurd H (by simp)
                    · rw [if_neg c75] at H
                      exact absurd H (by simp)
                  · rw [if_neg c74] at H
                    exact absurd H (by simp)
                · rw [if_neg c72] at H
                  have c72b0 : ((rd l0 (ji4)) == 0) = false := beq_eq_false_iff_ne.mpr c72
                  have c72b1 : ((rd l0 (ji4)) != 0) = true := bne_iff_ne.mpr c72
                  by_cases c89 : (rd l0 (ji4)) = 127
                  · rw [if_pos c89] at H
                    have c89b0 : ((rd l0 (ji4)) == 127) = true := beq_iff_eq.mpr c89
                    have c89b1 : ((rd l0 (ji4)) != 127) = false := bne_eq_false_iff_eq.mpr c89
                    clear c89
                    obtain ⟨ji90, hji90⟩ : ∃ j_ : Int, (wrap64 (t145 - 2)) = j_ := ⟨_, rfl⟩
                    replace H : (if 0 ≤ (ji90) then (if (ji90) < (l0.length : Int) then (if (Go.bits .and .u8 (rd l0 (ji90)) 64) = 0 then (if t145 = 10 then (if 0 ≤ t145 then (if t145 ≤ (l0.length : Int) then ((slices_Clone_byte_byte.f (l0.drop (t145 : Int).toNat)).bind fun t195 => (some (wrap64 (t144), t195, 0))) else (none)) else (none)) else (if 0 ≤ t145 then (if t145 ≤ (l0.length : Int) then ((slices_Clone_byte_byte.f (l0.drop (t145 : Int).toNat)).bind fun t199 => (some (wrap64 (t144), t199, 0))) else (none)) else (none))) else (some (0, ([] : List Int), 4))) else (none)) else (none)) = some (r1, r2, r3) := by first | (rw [hji90] at H; exact H) | (simp only [hji90] at H ⊢; exact H)
                    have hji90w : (IntKind.i64.wrap (t145 - 2)) = ji90 := (i64_w _).trans hji90
                    by_cases c91 : 0 ≤ (ji90)
                    · rw [if_pos c91] at H
                      have c91b0 : decide (0 ≤ (ji90)) = true := decide_eq_true c91
                      clear c91
                      by_cases c92 : (ji90) < (l0.length : Int)
                      · rw [if_pos c92] at H
                        have c92b0 : decide ((ji90) < (l0.length : Int)) = true := decide_eq_true c92
                        clear c92
                        by_cases c93 : (Go.bits .and .u8 (rd l0 (ji90)) 64) = 0
                        · rw [if_pos c93] at H
                          have c93b0 : ((Go.bits .and .u8 (rd l0 (ji90)) 64) == 0) = true := beq_iff_eq.mpr c93
                          have c93b1 : ((Go.bits .and .u8 (rd l0 (ji90)) 64) != 0) = false := bne_eq_false_iff_eq.mpr c93
                          clear c93
                          by_cases c94 : t145 = 10
                          · rw [if_pos c94] at H
                            have c94b0 : (t145 == 10) = true := beq_iff_eq.mpr c94
                            have c94b1 : (t145 != 10) = false := bne_eq_false_iff_eq.mpr c94
                            clear c94
                            by_cases c95 : 0 ≤ t145
                            · rw [if_pos c95] at H
                              have c95b0 := eq_true c95
                              have c95b1 : decide (0 ≤ t145) = true := decide_eq_true c95
                              clear c95
                              by_cases c96 : t145 ≤ (l0.length : Int)
                              · rw [if_pos c96] at H
                                have c96b0 := eq_true c96
                                have c96b1 : decide (t145 ≤ (l0.length : Int)) = true := decide_eq_true c96
                                clear c96
                                replace H := Option.bind_eq_some_iff.mp H
                                obtain ⟨t195, A970, H⟩ := H
                                replace H : (some (wrap64 (t144), t195, 0)) = some (r1, r2, r3) := H
                                have A97 := Aside0.mk A970
                                clear A970
                                simp only [Option.some.injEq, Prod.mk.injEq] at H
                                obtain ⟨rfl, rfl, rfl⟩ := H
                                have p193 : 0 ≤ ((ji90) : Int) := of_decide_eq_true (by first | (with_reducible assumption) | assumption)
                                have q193 : (ji90) < (l0.length : Int) := of_decide_eq_true (by first | (with_reducible assumption) | assumption)
                                obtain ⟨ad193, e193, hx193_0⟩ := Kd.at_int HR0.out (ji90) p193 q193
                                obtain rfl : ad147 = ad193 := (by injection e193)
                                replace hx193_0 := (HB.out.cell (World.block_lt_of_cell? w _ hx193_0)).trans hx193_0
                                replace p193 := eq_true p193
                                replace q193 := eq_true q193
                                obtain ⟨i098, hi098, _, hsz98, _⟩ := info_parts info5
                                obtain ⟨A98, hcut98, hA98, hC98⟩ := print_drop_of (P := Tryd.prog) (Value.int .u8) 0 22 5 .i64 Tryd.underlying22 hi098 hsz98 (some ad147) c0 l0 t145 (of_decide_eq_true (by first | (with_reducible assumption) | assumption)) (of_decide_eq_true (by first | (with_reducible assumption) | assumption)) HC0.out
                                have HR194 := Aside0.mk (Kd.C_of_reads (h1 := fun _ => rfl) (hA98 _ (Kd.reads_of_C HR0.out)))
                                have HC194 := Aside0.mk hC98
                                clear hA98 hC98 hi098 hsz98
                                go_wp2_with (first | ((with_reducible refine gate_callee (f := 37) rfl ?_); refine goesL_ (some 81) rfl rfl Tryd.func37 (by kernel_rfl) rfl #[.slice A98 (l0.drop (t145 : Int).toNat).length (c0 - t145.toNat)] rfl (by (try simp only [List.map_toArray, List.map_cons, List.map_nil]); first | done | (rw [show (l0.drop (t145 : Int).toNat).length = (l0.length - t145.toNat) from List.length_drop] <;> rfl) | rfl | (simp only [List.length_drop, List.length_take]; rfl)) ?_; (with_reducible refine (slices_Clone_byte_byte.calls _ _ (l0.drop (t145 : Int).toNat) t195 _ ?side1 ?side2 A97.out).mono ?_); (case side1 => repeat (first | exact (Kd.C_below HR194.out HB.out) | (with_reducible refine Kd.C_alloc ?_ _) | (with_reducible refine Kd.C_drewN ?_ _) | (with_reducible refine Kd.C_drew ?_))); (case side2 => exact HC194.out); rintro e w99 ⟨v196, rfl, ho0, hb⟩; refine ⟨_, rfl, ?_⟩; have n0_ := Aside0.mk (Kd.R_lower ho0 (below_size (by repeat (first | (with_reducible first | exact HB.out | apply below_alloc | apply pw_below_drewN | apply below_drew1) | exact HB.out)))); have n1_ := Aside0.mk (below_step (by repeat (first | (with_reducible first | exact HB.out | apply below_alloc | apply pw_below_drewN | apply below_drew1) | exact HB.out)) hb); clear HB; have HO197 := n0_; have HB := n1_; clear n0_ n1_; (try clear hb); (try clear hb2); (try clear hk); (try clear hi); (try clear ho0)))
                                go_ret3
                                exact ⟨_, by first | rfl | (simp [errW_none, errW_some] <;> rfl) | (simp only [← hji4, ← hji90]; first | rfl | (simp [errW_none, errW_some] <;> rfl)) | (simp [*, errW_none, errW_some] <;> rfl), by (with_reducible repeat (first | apply Kd.R_alloc | apply Kd.R_drewN | apply Kd.R_drew)); exact HO197.out, by repeat (first | (with_reducible first | exact HB.out | apply below_alloc | apply pw_below_drewN | apply below_drew1) | exact HB.out)⟩
                              · rw [if_neg c96] at H
                                exact absurd H (by simp)
                            · rw [if_neg c95] at H
                              exact absurd H (by simp)
                          · rw [if_neg c94] at H
                            have c94b0 : (t145 == 10) = false := beq_eq_false_iff_ne.mpr c94
                            have c94b1 : (t145 != 10) = true := bne_iff_ne.mpr c94
                            by_cases c100 : 0 ≤ t145
                            · rw [if_pos c100] at H
                              have c100b0 := eq_true c100
                              have c100b1 : decide (0 ≤ t145) = true := decide_eq_true c100
                              clear c100
                              by_cases c101 : t145 ≤ (l0.length : Int)
                              · rw [if_pos c101] at H
                                have c101b0 := eq_true c101
                                have c101b1 : decide (t145 ≤ (l0.length : Int)) = true := decide_eq_true c101
                                clear c101
                                replace H := Option.bind_eq_some_iff.mp H
                                obtain ⟨t199, A1020, H⟩ := H
                                replace H : (some (wrap64 (t144), t199, 0)) = some (r1, r2, r3) := H
                                have A102 := Aside0.mk A1020
                                clear A1020
                                simp only [Option.some.injEq, Prod.mk.injEq] at H
                                obtain ⟨rfl, rfl, rfl⟩ := H
                                have p193 : 0 ≤ ((ji90) : Int) := of_decide_eq_true (by first | (with_reducible assumption) | assumption)
                                have q193 : (ji90) < (l0.length : Int) := of_decide_eq_true (by first | (with_reducible assumption) | assumption)
                                obtain ⟨ad193, e193, hx193_0⟩ := Kd.at_int HR0.out (ji90) p193 q193
                                obtain rfl : ad147 = ad193 := (by injection e193)
                                replace hx193_0 := (HB.out.cell (World.block_lt_of_cell? w _ hx193_0)).trans hx193_0
                                replace p193 := eq_true p193
                                replace q193 := eq_true q193
                                obtain ⟨i0103, hi0103, _, hsz103, _⟩ := info_parts info5
                                obtain ⟨A103, hcut103, hA103, hC103⟩ := print_drop_of (P := Tryd.prog) (Value.int .u8) 0 22 5 .i64 Tryd.underlying22 hi0103 hsz103 (some ad147) c0 l0 t145 (of_decide_eq_true (by first | (with_reducible assumption) | assumption)) (of_decide_eq_true (by first | (with_reducible assumption) | assumption)) HC0.out
                                have HR198 := Aside0.mk (Kd.C_of_reads (h1 := fun _ => rfl) (hA103 _ (Kd.reads_of_C HR0.out)))
                                have HC198 := Aside0.mk hC103
                                clear hA103 hC103 hi0103 hsz103
                                go_wp2_with (first | ((with_reducible refine gate_callee (f := 37) rfl ?_); refine goesL_ (some 81) rfl rfl Tryd.func37 (by kernel_rfl) rfl #[.slice A103 (l0.drop (t145 : Int).toNat).length (c0 - t145.toNat)] rfl (by (try simp only [List.map_toArray, List.map_cons, List.map_nil]); first | done | (rw [show (l0.drop (t145 : Int).toNat).length = (l0.length - t145.toNat) from List.length_drop] <;> rfl) | rfl | (simp only [List.length_drop, List.length_take]; rfl)) ?_; (with_reducible refine (slices_Clone_byte_byte.calls _ _ (l0.drop (t145 : Int).toNat) t199 _ ?side1 ?side2 A102.out).mono ?_); (case side1 => repeat (first | exact (Kd.C_below HR198.out HB.out) | (with_reducible refine Kd.C_alloc ?_ _) | (with_reducible refine Kd.C_drewN ?_ _) | (with_reducible refine Kd.C_drew ?_))); (case side2 => exact HC198.out); rintro e w104 ⟨v200, rfl, ho0, hb⟩; refine ⟨_, rfl, ?_⟩; have n0_ := Aside0.mk (Kd.R_lower ho0 (below_size (by repeat (first | (with_reducible first | exact HB.out | apply below_alloc | apply pw_below_drewN | apply below_drew1) | exact HB.out)))); have n1_ := Aside0.mk (below_step (by repeat (first | (with_reducible first | exact HB.out | apply below_alloc | apply pw_below_drewN | apply below_drew1) | exact HB.out)) hb); clear HB; have HO201 := n0_; have HB := n1_; clear n0_ n1_; (try clear hb); (try clear hb2); (try clear hk); (try clear hi); (try clear ho0)))
                                go_ret3
                                exact ⟨_, by first | rfl | (simp [errW_none, errW_some] <;> rfl) | (simp only [← hji4, ← hji90]; first | rfl | (simp [errW_none, errW_some] <;> rfl)) | (simp [*, errW_none, errW_some] <;> rfl), by (with_reducible repeat (first | apply Kd.R_alloc | apply Kd.R_drewN | apply Kd.R_drew)); exact HO201.out, by repeat (first | (with_reducible first | exact HB.out | apply below_alloc | apply pw_below_drewN | apply below_drew1) | exact HB.out)⟩
                              · rw [if_neg c101] at H
                                exact absurd H (by simp)
                            · rw [if_neg c100] at H
                              exact absurd H (by simp)
                        · rw [if_neg c93] at H
                          have c93b0 : ((Go.bits .and .u8 (rd l0 (ji90)) 64) == 0) = false := beq_eq_false_iff_ne.mpr c93
                          have c93b1 : ((Go.bits .and .u8 (rd l0 (ji90)) 64) != 0) = true := bne_iff_ne.mpr c93
                          simp only [Option.some.injEq, Prod.mk.injEq] at H
                          obtain ⟨rfl, rfl, rfl⟩ := H
                          have p193 : 0 ≤ ((ji90) : Int) := of_decide_eq_true (by first | (with_reducible assumption) | assumption)
                          have q193 : (ji90) < (l0.length : Int) := of_decide_eq_true (by first | (with_reducible assumption) | assumption)
                          obtain ⟨ad193, e193, hx193_0⟩ := Kd.at_int HR0.out (ji90) p193 q193
                          obtain rfl : ad147 = ad193 := (by injection e193)
                          replace hx193_0 := (HB.out.cell (World.block_lt_of_cell? w _ hx193_0)).trans hx193_0
                          replace p193 := eq_true p193
                          replace q193 := eq_true q193
                          go_wp2
                          go_ret3
                          exact ⟨_, by first | rfl | (simp [errW_none, errW_some] <;> rfl) | (simp only [← hji4, ← hji90]; first | rfl | (simp [errW_none, errW_some] <;> rfl)) | (simp [*, errW_none, errW_some] <;> rfl), by first | exact Kd.R_nil _ _ _ _ _ | exact Kd.N_nil _ _ _ _ _ | exact Kd.V_nil _ _ _ _ _ | exact Kd.Q_nil _ _ _ _ _ | exact Kd.S_nil _ _ _ _ _, by repeat (first | (with_reducible first | exact HB.out | apply below_alloc | apply pw_below_drewN | apply below_drew1) | exact HB.out)⟩
                      · rw [if_neg c92] at H
                        exact absurd H (by simp)
                    · rw [if_neg c91] at H
                      exact absurd H (by simp)
                  · rw [if_neg c89] at H
                    have c89b0 : ((rd l0 (ji4)) == 127) = false := beq_eq_false_iff_ne.mpr c89
                    have c89b1 : ((rd l0 (ji4)) != 127) = true := bne_iff_ne.mpr c89
                    by_cases c105 : t145 = 10
                    · rw [if_pos c105] at H
                      have c105b0 : (t145 == 10) = true := beq_iff_eq.mpr c105
                      have c105b1 : (t145 != 10) = false := bne_eq_false_iff_eq.mpr c105
                      clear c105
                      simp only [Option.some.injEq, Prod.mk.injEq] at H
                      obtain ⟨rfl, rfl, rfl⟩ := H
                      go_wp2
                      go_ret3
                      exact ⟨_, by first | rfl | (simp [errW_none, errW_some] <;> rfl) | (simp only [← hji4]; first | rfl | (simp [errW_none, errW_some] <;> rfl)) | (simp [*, errW_none, errW_some] <;> rfl), by first | exact Kd.R_nil _ _ _ _ _ | exact Kd.N_nil _ _ _ _ _ | exact Kd.V_nil _ _ _ _ _ | exact Kd.Q_nil _ _ _ _ _ | exact Kd.S_nil _ _ _ _ _, by repeat (first | (with_reducible first | exact HB.out | apply below_alloc | apply pw_below_drewN | apply below_drew1) | exact HB.out)⟩
                    · rw [if_neg c105] at H
                      have c105b0 : (t145 == 10) = false := beq_eq_false_iff_ne.mpr c105
                      have c105b1 : (t145 != 10) = true := bne_iff_ne.mpr c105
                      by_cases c106 : 0 ≤ t145
                      · rw [if_pos c106] at H
                        have c106b0 := eq_true c106
                        have c106b1 : decide (0 ≤ t145) = true := decide_eq_true c106
                        clear c106
                        by_cases c107 : t145 ≤ (l0.length : Int)
                        · rw [if_pos c107] at H
                          have c107b0 := eq_true c107
                          have c107b1 : decide (t145 ≤ (l0.length : Int)) = true := decide_eq_true c107
                          clear c107
                          replace H := Option.bind_eq_some_iff.mp H
                          obtain ⟨t203, A1080, H⟩ := H
                          replace H : (some (wrap64 (t144), t203, 0)) = some (r1, r2, r3) := H
                          have A108 := Aside0.mk A1080
                          clear A1080
                          simp only [Option.some.injEq, Prod.mk.injEq] at H
                          obtain ⟨rfl, rfl, rfl⟩ := H
                          obtain ⟨i0109, hi0109, _, hsz109, _⟩ := info_parts info5
                          obtain ⟨A109, hcut109, hA109, hC109⟩ := print_drop_of (P := Tryd.prog) (Value.int .u8) 0 22 5 .i64 Tryd.underlying22 hi0109 hsz109 (some ad147) c0 l0 t145 (of_decide_eq_true (by first | (with_reducible assumption) | assumption)) (of_decide_eq_true (by first | (with_reducible assumption) | assumption)) HC0.out
                          have HR202 := Aside0.mk (Kd.C_of_reads (h1 := fun _ => rfl) (hA109 _ (Kd.reads_of_C HR0.out)))
                          have HC202 := Aside0.mk hC109
                          clear hA109 hC109 hi0109 hsz109
                          go_wp2_with (first | ((with_reducible refine gate_callee (f := 37) rfl ?_); refine goesL_ (some 81) rfl rfl Tryd.func37 (by kernel_rfl) rfl #[.slice A109 (l0.drop (t145 : Int).toNat).length (c0 - t145.toNat)] rfl (by (try simp only [List.map_toArray, List.map_cons, List.map_nil]); first | done | (rw [show (l0.drop (t145 : Int).toNat).length = (l0.length - t145.toNat) from List.length_drop] <;> rfl) | rfl | (simp only [List.length_drop, List.length_take]; rfl)) ?_; (with_reducible refine (slices_Clone_byte_byte.calls _ _ (l0.drop (t145 : Int).toNat) t203 _ ?side1 ?side2 A108.out).mono ?_); (case side1 => repeat (first | exact (Kd.C_below HR202.out HB.out) | (with_reducible refine Kd.C_alloc ?_ _) | (with_reducible refine Kd.C_drewN ?_ _) | (with_reducible refine Kd.C_drew ?_))); (case side2 => exact HC202.out); rintro e w110 ⟨v204, rfl, ho0, hb⟩; refine ⟨_, rfl, ?_⟩; have n0_ := Aside0.mk (Kd.R_lower ho0 (below_size (by repeat (first | (with_reducible first | exact HB.out | apply below_alloc | apply pw_below_drewN | apply below_drew1) | exact HB.out)))); have n1_ := Aside0.mk (below_step (by repeat (first | (with_reducible first | exact HB.out | apply below_alloc | apply pw_below_drewN | apply below_drew1) | exact HB.out)) hb); clear HB; have HO205 := n0_; have HB := n1_; clear n0_ n1_; (try clear hb); (try clear hb2); (try clear hk); (try clear hi); (try clear ho0)))
                          go_ret3
                          exact ⟨_, by first | rfl | (simp [errW_none, errW_some] <;> rfl) | (simp only [← hji4]; first | rfl | (simp [errW_none, errW_some] <;> rfl)) | (simp [*, errW_none, errW_some] <;> rfl), by (with_reducible repeat (first | apply Kd.R_alloc | apply Kd.R_drewN | apply Kd.R_drew)); exact HO205.out, by repeat (first | (with_reducible first | exact HB.out | apply below_alloc | apply pw_below_drewN | apply below_drew1) | exact HB.out)⟩
                        · rw [if_neg c107] at H
                          exact absurd H (by simp)
                      · rw [if_neg c106] at H
                        exact absurd H (by simp)
              · rw [if_neg c71] at H
                have c71b0 : decide (1 < t145) = false := decide_eq_false c71
                clear c71
                by_cases c111 : t145 = 10
                · rw [if_pos c111] at H
                  have c111b0 : (t145 == 10) = true := beq_iff_eq.mpr c111
                  have c111b1 : (t145 != 10) = false := bne_eq_false_iff_eq.mpr c111
                  clear c111
                  by_cases c112 : (rd l0 (ji4)) = 0
                  · rw [if_pos c112] at H
                    have c112b0 : ((rd l0 (ji4)) == 0) = true := beq_iff_eq.mpr c112
                    have c112b1 : ((rd l0 (ji4)) != 0) = false := bne_eq_false_iff_eq.mpr c112
                    clear c112
                    by_cases c113 : 0 ≤ t145
                    · rw [if_pos c113] at H
                      have c113b0 := eq_true c113
                      have c113b1 : decide (0 ≤ t145) = true := decide_eq_true c113
                      clear c113
                      by_cases c114 : t145 ≤ (l0.length : Int)
                      · rw [if_pos c114] at H
                        have c114b0 := eq_true c114
                        have c114b1 : decide (t145 ≤ (l0.length : Int)) = true := decide_eq_true c114
                        clear c114
                        replace H := Option.bind_eq_some_iff.mp H
                        obtain ⟨t207, A1150, H⟩ := H
                        replace H : (some (wrap64 (t144), t207, 0)) = some (r1, r2, r3) := H
                        have A115 := Aside0.mk A1150
                        clear A1150
                        simp only [Option.some.injEq, Prod.mk.injEq] at H
                        obtain ⟨rfl, rfl, rfl⟩ := H
                        obtain ⟨i0116, hi0116, _, hsz116, _⟩ := info_parts info5
                        obtain ⟨A116, hcut116, hA116, hC116⟩ := print_drop_of (P := Tryd.prog) (Value.int .u8) 0 22 5 .i64 Tryd.underlying22 hi0116 hsz116 (some ad147) c0 l0 t145 (of_decide_eq_true (by first | (with_reducible assumption) | assumption)) (of_decide_eq_true (by first | (with_reducible assumption) | assumption)) HC0.out
                        have HR206 := Aside0.mk (Kd.C_of_reads (h1 := fun _ => rfl) (hA116 _ (Kd.reads_of_C HR0.out)))
                        have HC206 := Aside0.mk hC116
                        clear hA116 hC116 hi0116 hsz116
                        go_wp2_with (first | ((with_reducible refine gate_callee (f := 37) rfl ?_); refine goesL_ (some 81) rfl rfl Tryd.func37 (by kernel_rfl) rfl #[.slice A116 (l0.drop (t145 : Int).toNat).length (c0 - t145.toNat)] rfl (by (try simp only [List.map_toArray, List.map_cons, List.map_nil]); first | done | (rw [show (l0.drop (t145 : Int).toNat).length = (l0.length - t145.toNat) from List.length_drop] <;> rfl) | rfl | (simp only [List.length_drop, List.length_take]; rfl)) ?_; (with_reducible refine (slices_Clone_byte_byte.calls _ _ (l0.drop (t145 : Int).toNat) t207 _ ?side1 ?side2 A115.out).mono ?_); (case side1 => repeat (first | exact (Kd.C_below HR206.out HB.out) | (with_reducible refine Kd.C_alloc ?_ _) | (with_reducible refine Kd.C_drewN ?_ _) | (with_reducible refine Kd.C_drew ?_))); (case side2 => exact HC206.out); rintro e w117 ⟨v208, rfl, ho0, hb⟩; refine ⟨_, rfl, ?_⟩; have n0_ := Aside0.mk (Kd.R_lower ho0 (below_size (by repeat (first | (with_reducible first | exact HB.out | apply below_alloc | apply pw_below_drewN | apply below_drew1) | exact HB.out)))); have n1_ := Aside0.mk (below_step (by repeat (first | (with_reducible first | exact HB.out | apply below_alloc | apply pw_below_drewN | apply below_drew1) | exact HB.out)) hb); clear HB; have HO209 := n0_; have HB := n1_; clear n0_ n1_; (try clear hb); (try clear hb2); (try clear hk); (try clear hi); (try clear ho0)))
                        go_ret3
                        exact ⟨_, by first | rfl | (simp [errW_none, errW_some] <;> rfl) | (simp only [← hji4]; first | rfl | (simp [errW_none, errW_some] <;> rfl)) | (simp [*, errW_none, errW_some] <;> rfl), by (with_reducible repeat (first | apply Kd.R_alloc | apply Kd.R_drewN | apply Kd.R_drew)); exact HO209.out, by repeat (first | (with_reducible first | exact HB.out | apply below_alloc | apply pw_below_drewN | apply below_drew1) | exact HB.out)⟩
                      · rw [if_neg c114] at H
                        exact absurd H (by simp)
                    · rw [if_neg c113] at H
                      exact absurd H (by simp)
                  · rw [if_neg c112] at H
                    have c112b0 : ((rd l0 (ji4)) == 0) = false := beq_eq_false_iff_ne.mpr c112
                    have c112b1 : ((rd l0 (ji4)) != 0) = true := bne_iff_ne.mpr c112
                    by_cases c118 : (rd l0 (ji4)) = 127
                    · rw [if_pos c118] at H
                      have c118b0 : ((rd l0 (ji4)) == 127) = true := beq_iff_eq.mpr c118
                      have c118b1 : ((rd l0 (ji4)) != 127) = false := bne_eq_false_iff_eq.mpr c118
                      clear c118
                      by_cases c119 : 0 ≤ t145
                      · rw [if_pos c119] at H
                        have c119b0 := eq_true c119
                        have c119b1 : decide (0 ≤ t145) = true := decide_eq_true c119
                        clear c119
                        by_cases c120 : t145 ≤ (l0.length : Int)
                        · rw [if_pos c120] at H
                          have c120b0 := eq_true c120
                          have c120b1 : decide (t145 ≤ (l0.length : Int)) = true := decide_eq_true c120
                          clear c120
                          replace H := Option.bind_eq_some_iff.mp H
                          obtain ⟨t211, A1210, H⟩ := H
                          replace H : (some (wrap64 (t144), t211, 0)) = some (r1, r2, r3) := H
                          have A121 := Aside0.mk A1210
                          clear A1210
                          simp only [Option.some.injEq, Prod.mk.injEq] at H
                          obtain ⟨rfl, rfl, rfl⟩ := H
                          obtain ⟨i0122, hi0122, _, hsz122, _⟩ := info_parts info5
                          obtain ⟨A122, hcut122, hA122, hC122⟩ := print_drop_of (P := Tryd.prog) (Value.int .u8) 0 22 5 .i64 Tryd.underlying22 hi0122 hsz122 (some ad147) c0 l0 t145 (of_decide_eq_true (by first | (with_reducible assumption) | assumption)) (of_decide_eq_true (by first | (with_reducible assumption) | assumption)) HC0.out
                          have HR210 := Aside0.mk (Kd.C_of_reads (h1 := fun _ => rfl) (hA122 _ (Kd.reads_of_C HR0.out)))
                          have HC210 := Aside0.mk hC122
                          clear hA122 hC122 hi0122 hsz122
                          go_wp2_with (first | ((with_reducible refine gate_callee (f := 37) rfl ?_); refine goesL_ (some 81) rfl rfl Tryd.func37 (by kernel_rfl) rfl #[.slice A122 (l0.drop (t145 : Int).toNat).length (c0 - t145.toNat)] rfl (by (try simp only [List.map_toArray, List.map_cons, List.map_nil]); first | done | (rw [show (l0.drop (t145 : Int).toNat).length = (l0.length - t145.toNat) from List.length_drop] <;> rfl) | rfl | (simp only [List.length_drop, List.length_take]; rfl)) ?_; (with_reducible refine (slices_Clone_byte_byte.calls _ _ (l0.drop (t145 : Int).toNat) t211 _ ?side1 ?side2 A121.out).mono ?_); (case side1 => repeat (first | exact (Kd.C_below HR210.out HB.out) | (with_reducible refine Kd.C_alloc ?_ _) | (with_reducible refine Kd.C_drewN ?_ _) | (with_reducible refine Kd.C_drew ?_))); (case side2 => exact HC210.out); rintro e w123 ⟨v212, rfl, ho0, hb⟩; refine ⟨_, rfl, ?_⟩; have n0_ := Aside0.mk (Kd.R_lower ho0 (below_size (by repeat (first | (with_reducible first | exact HB.out | apply below_alloc | apply pw_below_drewN | apply below_drew1) | exact HB.out)))); have n1_ := Aside0.mk (below_step (by repeat (first | (with_reducible first | exact HB.out | apply below_alloc | apply pw_below_drewN | apply below_drew1) | exact HB.out)) hb); clear HB; have HO213 := n0_; have HB := n1_; clear n0_ n1_; (try clear hb); (try clear hb2); (try clear hk); (try clear hi); (try clear ho0)))
                          go_ret3
                          exact ⟨_, by first | rfl | (simp [errW_none, errW_some] <;> rfl) | (simp only [← hji4]; first | rfl | (simp [errW_none, errW_some] <;> rfl)) | (simp [*, errW_none, errW_some] <;> rfl), by (with_reducible repeat (first | apply Kd.R_alloc | apply Kd.R_drewN | apply Kd.R_drew)); exact HO213.out, by repeat (first | (with_reducible first | exact HB.out | apply below_alloc | apply pw_below_drewN | apply below_drew1) | exact HB.out)⟩
                        · rw [if_neg c120] at H
                          exact absurd H (by simp)
                      · rw [if_neg c119] at H
                        exact absurd H (by simp)
                    · rw [if_neg c118] at H
                      have c118b0 : ((rd l0 (ji4)) == 127) = false := beq_eq_false_iff_ne.mpr c118
                      have c118b1 : ((rd l0 (ji4)) != 127) = true := bne_iff_ne.mpr c118
                      simp only [Option.some.injEq, Prod.mk.injEq] at H
                      obtain ⟨rfl, rfl, rfl⟩ := H
                      go_wp2
                      go_ret3
                      exact ⟨_, by first | rfl | (simp [errW_none, errW_some] <;> rfl) | (simp only [← hji4]; first | rfl | (simp [errW_none, errW_some] <;> rfl)) | (simp [*, errW_none, errW_some] <;> rfl), by first | exact Kd.R_nil _ _ _ _ _ | exact Kd.N_nil _ _ _ _ _ | exact Kd.V_nil _ _ _ _ _ | exact Kd.Q_nil _ _ _ _ _ | exact Kd.S_nil _ _ _ _ _, by repeat (first | (with_reducible first | exact HB.out | apply below_alloc | apply pw_below_drewN | apply below_drew1) | exact HB.out)⟩
                · rw [if_neg c111] at H
                  have c111b0 : (t145 == 10) = false := beq_eq_false_iff_ne.mpr c111
                  have c111b1 : (t145 != 10) = true := bne_iff_ne.mpr c111
                  by_cases c124 : 0 ≤ t145
                  · rw [if_pos c124] at H
                    have c124b0 := eq_true c124
                    have c124b1 : decide (0 ≤ t145) = true := decide_eq_true c124
                    clear c124
                    by_cases c125 : t145 ≤ (l0.length : Int)
                    · rw [if_pos c125] at H
                      have c125b0 := eq_true c125
                      have c125b1 : decide (t145 ≤ (l0.length : Int)) = true := decide_eq_true c125
                      clear c125
                      replace H := Option.bind_eq_some_iff.mp H
                      obtain ⟨t215, A1260, H⟩ := H
                      replace H : (some (wrap64 (t144), t215, 0)) = some (r1, r2, r3) := H
                      have A126 := Aside0.mk A1260
                      clear A1260
                      simp only [Option.some.injEq, Prod.mk.injEq] at H
                      obtain ⟨rfl, rfl, rfl⟩ := H
                      obtain ⟨i0127, hi0127, _, hsz127, _⟩ := info_parts info5
                      obtain ⟨A127, hcut127, hA127, hC127⟩ := print_drop_of (P := Tryd.prog) (Value.int .u8) 0 22 5 .i64 Tryd.underlying22 hi0127 hsz127 (some ad147) c0 l0 t145 (of_decide_eq_true (by first | (with_reducible assumption) | assumption)) (of_decide_eq_true (by first | (with_reducible assumption) | assumption)) HC0.out
                      have HR214 := Aside0.mk (Kd.C_of_reads (h1 := fun _ => rfl) (hA127 _ (Kd.reads_of_C HR0.out)))
                      have HC214 := Aside0.mk hC127
                      clear hA127 hC127 hi0127 hsz127
                      go_wp2_with (first | ((with_reducible refine gate_callee (f := 37) rfl ?_); refine goesL_ (some 81) rfl rfl Tryd.func37 (by kernel_rfl) rfl #[.slice A127 (l0.drop (t145 : Int).toNat).length (c0 - t145.toNat)] rfl (by (try simp only [List.map_toArray, List.map_cons, List.map_nil]); first | done | (rw [show (l0.drop (t145 : Int).toNat).length = (l0.length - t145.toNat) from List.length_drop] <;> rfl) | rfl | (simp only [List.length_drop, List.length_take]; rfl)) ?_; (with_reducible refine (slices_Clone_byte_byte.calls _ _ (l0.drop (t145 : Int).toNat) t215 _ ?side1 ?side2 A126.out).mono ?_); (case side1 => repeat (first | exact (Kd.C_below HR214.out HB.out) | (with_reducible refine Kd.C_alloc ?_ _) | (with_reducible refine Kd.C_drewN ?_ _) | (with_reducible refine Kd.C_drew ?_))); (case side2 => exact HC214.out); rintro e w128 ⟨v216, rfl, ho0, hb⟩; refine ⟨_, rfl, ?_⟩; have n0_ := Aside0.mk (Kd.R_lower ho0 (below_size (by repeat (first | (with_reducible first | exact HB.out | apply below_alloc | apply pw_below_drewN | apply below_drew1) | exact HB.out)))); have n1_ := Aside0.mk (below_step (by repeat (first | (with_reducible first | exact HB.out | apply below_alloc | apply pw_below_drewN | apply below_drew1) | exact HB.out)) hb); clear HB; have HO217 := n0_; have HB := n1_; clear n0_ n1_; (try clear hb); (try clear hb2); (try clear hk); (try clear hi); (try clear ho0)))
                      go_ret3
                      exact ⟨_, by first | rfl | (simp [errW_none, errW_some] <;> rfl) | (simp only [← hji4]; first | rfl | (simp [errW_none, errW_some] <;> rfl)) | (simp [*, errW_none, errW_some] <;> rfl), by (with_reducible repeat (first | apply Kd.R_alloc | apply Kd.R_drewN | apply Kd.R_drew)); exact HO217.out, by repeat (first | (with_reducible first | exact HB.out | apply below_alloc | apply pw_below_drewN | apply below_drew1) | exact HB.out)⟩
                    · rw [if_neg c125] at H
                      exact absurd H (by simp)
                  · rw [if_neg c124] at H
                    exact absurd H (by simp)
      · rw [if_neg c6] at H
        exact absurd H (by simp)
    · rw [if_neg c5] at H
      exact absurd H (by simp)
  · rw [if_neg c3] at H
    have c3b0 : (t146 == 0) = false := beq_eq_false_iff_ne.mpr c3
    have c3b1 : (t146 != 0) = true := bne_iff_ne.mpr c3
    simp only [Option.some.injEq, Prod.mk.injEq] at H
    obtain ⟨rfl, rfl, rfl⟩ := H
    go_enter Tryd.func112, Tryd.ntmps112
    go_wp2_with (first | ((with_reducible refine gate_callee (f := 56) rfl ?_); refine goesL_ (some 11) rfl rfl Tryd.func56 (by kernel_rfl) rfl #[.slice A0 l0.length c0, .int .i64 10] rfl (by (try simp only [List.map_toArray, List.map_cons, List.map_nil]); first | done | rfl | (simp only [List.length_drop, List.length_take]; rfl)) ?_; (with_reducible refine (leb_row.calls _ _ l0 10 t144 t145 t146 _ ?side1 ?side2 A2.out).mono ?_); (case side1 => repeat (first | exact HR0.out | (with_reducible refine Kd.C_alloc ?_ _) | (with_reducible refine Kd.C_drewN ?_ _) | (with_reducible refine Kd.C_drew ?_))); (case side2 => exact HC0.out); rintro e w' ⟨rfl, ⟨nd, rfl⟩⟩; refine ⟨_, rfl, ?_⟩))
    go_ret3
    exact ⟨_, by first | rfl | (simp [errW_none, errW_some] <;> rfl) | (simp [*, errW_none, errW_some] <;> rfl), by first | exact Kd.R_nil _ _ _ _ _ | exact Kd.N_nil _ _ _ _ _ | exact Kd.V_nil _ _ _ _ _ | exact Kd.Q_nil _ _ _ _ _ | exact Kd.S_nil _ _ _ _ _, by repeat (first | (with_reducible first | exact HB.out | apply below_alloc | apply pw_below_drewN | apply below_drew1) | exact HB.out)⟩


end Go.Proofs.YtkhigagkgpfpfaaDoor.PLeb

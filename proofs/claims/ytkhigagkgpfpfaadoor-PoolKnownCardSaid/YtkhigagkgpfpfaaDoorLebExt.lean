/- The Go functions leb.row and slices.Clone (of bytes), walked by hand: what they compute, as plain functions on lists. -/
import Derived.Test.YtkhigagkgpfpfaaDoorProg
import Derived.Test.YtkhigagkgpfpfaaDoorPMini
import Derived.Test.YtkhigagkgpfpfaaDoorLebMath
import Derived.Test.YtkhigagkgpfpfaaDoorBits
import Derived.WalkKit
import Derived.ScopeJumps
import Derived.WalkMore
import Derived.WalkLawsBesides
import Derived.WalkSpells
set_option linter.unusedVariables false
set_option linter.unusedSimpArgs false
namespace Go.Proofs.YtkhigagkgpfpfaaDoor.Ext
open Go.RowKit Go.Proofs.YtkhigagkgpfpfaaDoorW.PrintWords Go.Proofs.YtkhigagkgpfpfaaDoorW.PrintLast Go.Proofs.YtkhigagkgpfpfaaDoorW.PrintMore
attribute [local go_sem] max2_int min2_int max_two min_two max_three min_three max_four min_four

theorem info5 : (Tryd.prog.info? 5).map (fun i => (i.zero, i.size, i.bytes)) = some (some (.int .u8 0), 1, 1) := by kernel_rfl
theorem rd_in {l : List Int} (h : ∀ x ∈ l, 0 ≤ x ∧ x ≤ 255) (i : Int) : 0 ≤ rd l i ∧ rd l i ≤ 255 := by
  unfold rd
  rw [List.getD_eq_getElem?_getD]
  by_cases hi : i.toNat < l.length
  · rw [List.getElem?_eq_getElem hi]; exact h _ (List.getElem_mem hi)
  · rw [List.getElem?_eq_none (by omega)]; simp
theorem drop_rd (l : List Int) (s : Nat) (h : s < l.length) : l.drop s = rd l (s : Int) :: l.drop (s + 1) := by
  unfold rd
  rw [List.drop_eq_getElem_cons h, List.getD_eq_getElem?_getD, Int.toNat_natCast, List.getElem?_eq_getElem h]; rfl

/-- slices.Clone of bytes -/
def slices_Clone_byte_byte.f (l0 : List Int) : Option (List Int) := if l0.length < 140737488355328 then some l0 else none
set_option maxHeartbeats 1000000 in
set_option maxRecDepth 100000 in
theorem slices_Clone_byte_byte.calls (A0 : Option Addr) (c0 : Nat) (l0 : List Int) (r : List Int) (w : World) (hr0 : Kd.C (Kd.int .u8) w A0 l0.length l0) (hc0 : l0.length ≤ c0) (h : slices_Clone_byte_byte.f l0 = some r) :
    Calls Tryd.prog 37 #[.slice A0 l0.length c0] w fun e w' => ∃ v0_ : Value, e = .returned (v0_) ∧ Kd.R (Kd.int .u8) 5 w' w.heap.size (fun _ => True) v0_ r ∧ Below w.heap.size w w' := by
  unfold slices_Clone_byte_byte.f at h
  split at h
  · rename_i hlen
    obtain rfl := Option.some.inj h
    have HR := Aside0.mk hr0
    have HB := Aside0.mk (Below.refl w.heap.size w)
    clear hr0 h
    rcases A0 with _ | ad
    · have hnil : l0 = [] := by
        rcases Nat.eq_zero_or_pos l0.length with h | h
        · exact List.eq_nil_of_length_eq_zero h
        · obtain ⟨ad, e, _⟩ := HR.out.2.2 h
          cases e
      subst hnil
      have hz := fun w => Lib.run_eql_slice_nil (P := Tryd.prog) w
      go_enter Tryd.func37, Tryd.ntmps37
      go_wp2
      go_ret
      exact ⟨_, rfl, Kd.R_nil _ _ _ _ _, HB.out⟩
    · have hz := fun w => Lib.run_eql_slice_nil (P := Tryd.prog) w
      have HOWN := Aside0.mk (show Kd.R (Kd.int .u8) 5 (w.alloc (.cells #[] 5)) w.heap.size (fun _ => True) (.slice (some ⟨w.heap.size, 0, none⟩) 0 0) [] from Kd.R_of_own (enc := Value.int .u8) (h1 := fun _ => rfl) (xs := []) (own_lit w w.heap.size 5 .u8 [] (Nat.le_refl _) (by decide)) (fun _ _ => trivial))
      go_enter Tryd.func37, Tryd.ntmps37
      go_wp2_with (at_builtin; refine Kd.R_append_rows (Kd.int .u8) (w0 := w) w.heap.size rfl _ _ 22 5 (.int .u8 0) 1 rfl Tryd.underlying22 info5 rfl (by decide) (by omega) (.slice (some ⟨w.heap.size, 0, none⟩) 0 0) [] l0 (some ad) l0.length c0 (fun _ => True) (fun _ => False) rfl rfl HOWN.out (Kd.C_alloc HR.out _) (fun _ _ h => h) (fun _ h => h.elim) (fun _ _ => trivial) (below_alloc HB.out _) (below_size (below_alloc HB.out _)) (by simp only [List.length_nil]; omega) ?_; intro v1 w5 ho hb hg hat; rw [List.nil_append] at ho; have HO := Aside0.mk ho; have n0_ := Aside0.mk hb; clear HB; have HB := n0_; clear n0_ ho hb hg hat HOWN)
      go_ret
      exact ⟨_, rfl, HO.out, HB.out⟩
  · cases h

/-- what holds at each coming to the label of 'row' -/
def RowInv (l : List Int) (m : Nat) (s : Nat) (x : Int) : Prop := s ≤ m ∧ s ≤ l.length ∧ 0 ≤ x ∧ x < 2 ^ (7 * s) ∧ rowL (l.drop s) (m - s) s x = rowL l m 0 0
theorem RowInv.most {l : List Int} {m s : Nat} {x : Int} (h : RowInv l m s x) (e : s = m) : rowL l m 0 0 = (0, 0, 4) := by
  obtain ⟨_, _, _, _, h⟩ := h
  rw [← h, e, Nat.sub_self]; cases l.drop m <;> rfl
theorem RowInv.short {l : List Int} {m s : Nat} {x : Int} (h : RowInv l m s x) (hm : s < m) (e : s = l.length) : rowL l m 0 0 = (0, 0, 3) := by
  obtain ⟨_, _, _, _, h⟩ := h
  obtain ⟨q, hq⟩ : ∃ q, m - s = q + 1 := ⟨m - s - 1, by omega⟩
  rw [← h, hq, List.drop_eq_nil_of_le (by omega)]; rfl
theorem RowInv.add {l : List Int} {m s : Nat} {x : Int} (h : RowInv l m s x) (hm : s < m) (h10 : m ≤ 10) (c : Int) (hc0 : 0 ≤ c) :
    bits .or .u64 x (c * 2 ^ (7 * s) % 18446744073709551616) = (x + c * 2 ^ (7 * s)) % 18446744073709551616 :=
  (u64_join (7 * s) x c (by omega) h.2.2.1 h.2.2.2.1 hc0).1
theorem RowInv.last {l : List Int} {m s : Nat} {x : Int} (h : RowInv l m s x) (hm : s < m) (hl : s < l.length) (hc : rd l (s : Int) < 128) :
    rowL l m 0 0 = ((x + rd l (s : Int) * 2 ^ (7 * s)) % 18446744073709551616, (s : Int) + 1, 0) := by
  obtain ⟨_, _, _, _, h⟩ := h
  obtain ⟨q, hq⟩ : ∃ q, m - s = q + 1 := ⟨m - s - 1, by omega⟩
  rw [← h, hq, drop_rd l s hl]
  simp only [rowL]
  rw [if_pos hc]
theorem RowInv.step {l : List Int} {m s : Nat} {x : Int} (h : RowInv l m s x) (hm : s < m) (h10 : m ≤ 10) (hl : s < l.length) (hc : 128 ≤ rd l (s : Int)) (hc1 : rd l (s : Int) ≤ 255) :
    RowInv l m (s + 1) ((x + (rd l (s : Int) - 128) * 2 ^ (7 * s)) % 18446744073709551616) := by
  obtain ⟨h1, h2, h3, h4, h⟩ := h
  obtain ⟨q, hq⟩ : ∃ q, m - s = q + 1 := ⟨m - s - 1, by omega⟩
  refine ⟨by omega, by omega, by omega, ?_, ?_⟩
  · have e : (2 : Int) ^ (7 * (s + 1)) = 128 * 2 ^ (7 * s) := by
      rw [show 7 * (s + 1) = 7 * s + 7 by omega, Int.pow_add]; omega
    have hp : (0 : Int) < 2 ^ (7 * s) := Int.pow_pos (by omega)
    have hmul : (rd l (s : Int) - 128) * 2 ^ (7 * s) ≤ 127 * 2 ^ (7 * s) := Int.mul_le_mul_of_nonneg_right (by omega) (by omega)
    have hmul0 : 0 ≤ (rd l (s : Int) - 128) * 2 ^ (7 * s) := Int.mul_nonneg (by omega) (by omega)
    rw [e]; omega
  · rw [← h, hq, drop_rd l s hl]
    simp only [rowL]
    rw [if_neg (by omega), show m - (s + 1) = q by omega]
theorem RowInv.start (l : List Int) (m : Nat) : RowInv l m 0 0 := ⟨by omega, by omega, by omega, by decide, by simp⟩

/-- a scope that begins with its label: what holds at each coming to it -/
theorem wp_scope_label {P : Program} {a : Act} {w : World} {Q : Exit → Act → World → Prop} {b : Code} (l : Nat) (J : Act → World → Prop) (μ : Act → World → Nat) (start : J a w)
    (pass : ∀ a w, J a w → b.wp P (Exit.jump l (fun a' w' => J a' w' ∧ μ a' w' < μ a w) Q) a w) : (Code.scope (.seq (.label l) b)).wp P Q a w := by
  refine wp_scope_jumps l J μ (rest := .seq .skip b) (by simp [findLabel]) ?_ ?_
  · refine wp_seq (wp_label ?_)
    refine wp_mono (pass a w start) (fun e a' w' hq => ?_)
    cases e <;> simp only [Exit.jump] at hq ⊢ <;> first | exact hq | exact ⟨hq.1, hq.2.1⟩
  · intro a' w' hJ
    exact wp_seq (wp_skip (pass a' w' hJ))

set_option maxHeartbeats 8000000 in
set_option maxRecDepth 100000 in
theorem row_calls (l : List Int) (A : Option Addr) (c m : Nat) (w : World) (hby : ∀ x ∈ l, 0 ≤ x ∧ x ≤ 255) (hm : m ≤ 10) (hr : Kd.C (Kd.int .u8) w A l.length l) :
    Calls Tryd.prog 56 #[.slice A l.length c, .int .i64 (m : Int)] w fun e w' => e = .returned (.tuple #[.int .u64 (rowL l m 0 0).1, .int .i64 (rowL l m 0 0).2.1, .int .i64 (rowL l m 0 0).2.2]) ∧ w = w' := by
  have HR := Aside0.mk hr
  have HBY := Aside0.mk hby
  have hmax : l.length ≤ 9223372036854775807 := hr.2.1
  clear hr hby
  obtain ⟨R1, R2, R3, hR⟩ : ∃ R1 R2 R3, rowL l m 0 0 = (R1, R2, R3) := ⟨_, _, _, rfl⟩
  rw [hR]
  have HRW := Aside0.mk hR
  clear hR
  go_enter Tryd.func56, Tryd.ntmps56
  go_wp2
  refine wp_scope_label 0 (fun a' w' => w = w' ∧ ∃ (s : Nat) (x : Int) (u7 u8 u9 u10 u11 u12 u13 u14 u15 u16 u17 u18 u19 u20 u21 u22 u23 u24 u25 u26 u27 u28 u29 u30 u31 u32 u33 u34 u35 : Value), a' = { tmps := #[.slice A l.length c, .int .i64 (m : Int), undef, undef, .int .u64 x, .int .i64 (s : Int), .int .i64 0, u7, u8, u9, u10, u11, u12, u13, u14, u15, u16, u17, u18, u19, u20, u21, u22, u23, u24, u25, u26, u27, u28, u29, u30, u31, u32, u33, u34, u35], defers := [] } ∧ Aside0 (RowInv l m s x)) (fun a' _ => m - (intOf (a'.tmps.getD 5 undef)).toNat) ?_ ?_
  · exact ⟨rfl, 0, 0, _, _, _, _, _, _, _, _, _, _, _, _, _, _, _, _, _, _, _, _, _, _, _, _, _, _, _, _, _, rfl, ⟨RowInv.start l m⟩⟩
  · rintro a' w' ⟨rfl, s, x, u7, u8, u9, u10, u11, u12, u13, u14, u15, u16, u17, u18, u19, u20, u21, u22, u23, u24, u25, u26, u27, u28, u29, u30, u31, u32, u33, u34, u35, rfl, HI⟩
    have hs1 := HI.out.1
    have hs2 := HI.out.2.1
    by_cases hsm : s = m
    · have e := HI.out.most hsm
      rw [HRW.out] at e
      obtain ⟨rfl, rfl, rfl⟩ : R1 = 0 ∧ R2 = 0 ∧ R3 = 4 := by simpa using e
      have hq : ((s : Int) == (m : Int)) = true := by rw [hsm]; exact beq_self_eq_true _
      clear hsm e
      go_wp2
      simp only [Exit.jump]
      go_ret3
      exact ⟨rfl, rfl⟩
    · have hq1 : ((s : Int) == (m : Int)) = false := beq_eq_false_iff_ne.2 (by omega)
      by_cases hsl : s = l.length
      · have e := HI.out.short (by omega) hsl
        rw [HRW.out] at e
        obtain ⟨rfl, rfl, rfl⟩ : R1 = 0 ∧ R2 = 0 ∧ R3 = 3 := by simpa using e
        have hq2 : ((s : Int) == (l.length : Int)) = true := by rw [hsl]; exact beq_self_eq_true _
        clear hsl hsm e
        go_wp2
        simp only [Exit.jump]
        go_ret3
        exact ⟨rfl, rfl⟩
      · have hq2 : ((s : Int) == (l.length : Int)) = false := beq_eq_false_iff_ne.2 (by omega)
        have hlt : (s : Int) < (l.length : Int) := by omega
        have hltm : (s : Int) < (m : Int) := by omega
        have hz := rd_in HBY.out (s : Int)
        obtain ⟨hz0, hz1⟩ := hz
        obtain ⟨ad, e, hcell⟩ := Kd.at_int HR.out (s : Int) (by omega) hlt
        cases e
        rw [Int.toNat_natCast] at hcell
        have b1 := u8_not128 (rd l (s : Int)) hz0 hz1
        have b2 := u8_and128 (rd l (s : Int)) hz0 hz1
        clear hsm hsl
        by_cases hc : rd l (s : Int) < 128
        · rw [if_pos hc] at b2
          rw [show rd l (s : Int) % 128 = rd l (s : Int) by omega] at b1
          have e := HI.out.last (by omega) (by omega) hc
          rw [HRW.out] at e
          obtain ⟨rfl, rfl, rfl⟩ : R1 = (x + rd l (s : Int) * 2 ^ (7 * s)) % 18446744073709551616 ∧ R2 = (s : Int) + 1 ∧ R3 = 0 := by simpa using e
          have HA := Aside0.mk (HI.out.add (by omega) hm (rd l (s : Int)) hz0)
          clear e
          go_wp2
          simp only [Exit.jump]
          go_ret3
          refine ⟨?_, rfl⟩
          rw [← HA.out]; rfl
        · rw [if_neg hc] at b2
          rw [show rd l (s : Int) % 128 = rd l (s : Int) - 128 by omega] at b1
          have HA := Aside0.mk (HI.out.add (by omega) hm (rd l (s : Int) - 128) (by omega))
          have HS := Aside0.mk (HI.out.step (by omega) hm (by omega) (by omega) hz1)
          go_wp2
          go_step3
          have e2 : bits .or .u64 x (IntKind.u64.wrap ((rd l (s : Int) - 128) * 2 ^ (7 * s))) = (x + (rd l (s : Int) - 128) * 2 ^ (7 * s)) % 18446744073709551616 := HA.out
          rw [← e2] at HS
          refine ⟨rfl, ⟨rfl, s + 1, _, _, _, _, _, _, _, _, _, _, _, _, _, _, _, _, _, _, _, _, _, _, _, _, _, _, _, _, _, _, rfl, HS⟩, ?_⟩
          simp [intOf]; omega

/-- 'leb.row', in the form of the print. -/
def leb_row.f (l0 : List Int) (a1 : Int) : Option (Int × Int × Int) := if (0 ≤ a1 ∧ a1 ≤ 10) ∧ ∀ x ∈ l0, 0 ≤ x ∧ x ≤ 255 then some (rowL l0 a1.toNat 0 0) else none
theorem leb_row.calls (A0 : Option Addr) (c0 : Nat) (l0 : List Int) (a1 : Int) (r1 : Int) (r2 : Int) (r3 : Int) (w : World) (hr0 : Kd.C (Kd.int .u8) w A0 l0.length l0) (hc0 : l0.length ≤ c0) (h : leb_row.f l0 a1 = some (r1, r2, r3)) :
    Calls Tryd.prog 56 #[.slice A0 l0.length c0, .int .i64 a1] w fun e w' => e = .returned (.tuple #[.int .u64 r1, .int .i64 r2, .int .i64 r3]) ∧ Drawn0 w w' := by
  unfold leb_row.f at h
  split at h
  · rename_i hg
    have e := Option.some.inj h
    obtain ⟨m, rfl⟩ : ∃ m : Nat, a1 = (m : Int) := ⟨a1.toNat, by omega⟩
    rw [Int.toNat_natCast] at e
    refine (row_calls l0 A0 c0 m w hg.2 (by omega) hr0).mono ?_
    rintro e2 w' ⟨rfl, rfl⟩
    rw [e]
    exact ⟨rfl, Drawn0.refl _⟩
  · cases h
end Go.Proofs.YtkhigagkgpfpfaaDoor.Ext

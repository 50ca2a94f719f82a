/- The Go functions text.unit (with its closure) and text.take, walked: what they take off the front of bytes. -/
import Derived.Test.YtkhigagkgpfpfaaDoorProg
import Derived.Test.YtkhigagkgpfpfaaDoorPMini
import Derived.Test.YtkhigagkgpfpfaaDoorTextMath
import Derived.WalkKit
import Derived.WalkMore
import Derived.WalkLawsBesides
import Derived.WalkSpells
import Derived.Outline
import Derived.OneCell
import Derived.Deep.QuietTactic
import Derived.BigQuiet
import Derived.Laws.BitsLemmas
import Derived.Laws.BitsAllLaws
set_option linter.unusedVariables false
set_option linter.unusedSimpArgs false
namespace Go.Proofs.YtkhigagkgpfpfaaDoor.Ext
open Go.RowKit Go.Lib Go.Proofs.YtkhigagkgpfpfaaDoorW.PrintWords Go.Proofs.YtkhigagkgpfpfaaDoorW.PrintLast Go.Proofs.YtkhigagkgpfpfaaDoorW.PrintMore
attribute [local go_sem] max2_int min2_int max_two min_two max_three min_three max_four min_four

theorem fin256 {P : Int → Prop} (h : ∀ X : Fin 256, P ((X.val : Nat) : Int)) (c : Int) (h0 : 0 ≤ c) (h1 : c ≤ 255) : P c := by
  have := h ⟨c.toNat, by omega⟩
  simp only at this
  rwa [show ((c.toNat : Nat) : Int) = c by omega] at this
theorem u8_more (c : Int) (h0 : 0 ≤ c) (h1 : c ≤ 255) : (bits .andNot .u8 c 63 == 128) = decide (c / 64 = 2) :=
  fin256 (P := fun c => (bits .andNot .u8 c 63 == 128) = decide (c / 64 = 2)) (by decide +kernel) c h0 h1
theorem u8_two (c : Int) (h0 : 0 ≤ c) (h1 : c ≤ 255) : (bits .andNot .u8 c 31 == 192) = decide (c / 32 = 6) :=
  fin256 (P := fun c => (bits .andNot .u8 c 31 == 192) = decide (c / 32 = 6)) (by decide +kernel) c h0 h1
theorem u8_three (c : Int) (h0 : 0 ≤ c) (h1 : c ≤ 255) : (bits .andNot .u8 c 15 == 224) = decide (c / 16 = 14) :=
  fin256 (P := fun c => (bits .andNot .u8 c 15 == 224) = decide (c / 16 = 14)) (by decide +kernel) c h0 h1
/-- has it a byte that goes on? -/
def moreB (l : List Int) (i : Nat) : Bool := decide (i < l.length ∧ l.getD i 0 / 64 = 2)
theorem add_zero' (a : Addr) : a.add 0 = a := by unfold Addr.add; simp
theorem add_one' (a : Addr) : a.add 1 = ⟨a.block, a.off + 1, none⟩ := by unfold Addr.add; simp
theorem add_two' (a : Addr) : a.add 2 = ⟨a.block, a.off + 2, none⟩ := by unfold Addr.add; simp
theorem rd_getD (l : List Int) (i : Nat) : rd l (i : Int) = l.getD i 0 := by unfold rd; rw [Int.toNat_natCast]
set_option maxHeartbeats 4000000 in
set_option maxRecDepth 100000 in
theorem more_calls (l : List Int) (A : Option Addr) (c : Nat) (i B : Nat) (w : World) (hby : Bytes l) (hr : Kd.C (Kd.int .u8) w A l.length l) (hi : i ≤ 2) (hB : w.cell? ⟨B, 0, none⟩ = some (.slice A l.length c)) :
    Calls Tryd.prog 115 #[.int .i64 (i : Int), .pointer (some ⟨B, 0, none⟩)] w fun e w' => e = .returned (.bool (moreB l i)) ∧ w = w' := by
  have HR := Aside0.mk hr
  have hz := getD_byte hby i
  by_cases hlt : i < l.length
  · have hltz : (i : Int) < (l.length : Int) := by omega
    have hm := u8_more _ hz.1 hz.2
    have e : moreB l i = decide (l.getD i 0 / 64 = 2) := by unfold moreB; simp [hlt]
    rw [e, ← hm]
    obtain ⟨ad, e1, hcell⟩ := Kd.at_int HR.out (i : Int) (by omega) hltz
    cases e1
    rw [rd_getD, Int.toNat_natCast] at hcell
    clear hm e hr
    generalize l.getD i 0 = x at *
    go_enter Tryd.func115, Tryd.ntmps115
    go_wp2
    go_ret
    exact ⟨rfl, rfl⟩
  · have hltz : ¬ (i : Int) < (l.length : Int) := by omega
    have e : moreB l i = false := by unfold moreB; simp [hlt]
    rw [e]
    clear e hr hz hby
    go_enter Tryd.func115, Tryd.ntmps115
    go_wp2
    go_ret
    exact ⟨rfl, rfl⟩

theorem i32_or12' (x y : Int) (h0 : 0 ≤ x) (h : x % 4096 = 0) (h1 : x < 2147483648) (h2 : 0 ≤ y) (h3 : y < 4096) : bits .or .i32 x y = x + y := i32_or12 x y h0 h h1 h2 h3
section
variable {w : World} {A : Option Addr} {c : Nat} {l : List Int}
/-- the world with the variable that the closure holds -/
def boxed (w : World) (A : Option Addr) (n c : Nat) : World := w.alloc (.cells #[.slice A n c] 22)
end
def UnitPost (w : World) (l : List Int) (e : Ending) (w' : World) : Prop := e = .returned (.tuple #[.int .i32 (unitL l).1, .int .i64 (unitL l).2]) ∧ Below w.heap.size w w'
theorem UnitPost.mk' {w : World} {l : List Int} {w' : World} {a b : Int} (h : unitL l = (a, b)) (hb : Below w.heap.size w w') : UnitPost w l (.returned (.tuple #[.int .i32 a, .int .i64 b])) w' := by
  unfold UnitPost; rw [h]; exact ⟨rfl, hb⟩
set_option maxHeartbeats 8000000 in
set_option maxRecDepth 100000 in
theorem unit_none (l : List Int) (A : Option Addr) (c : Nat) (w : World) (hr : Kd.C (Kd.int .u8) w A l.length l) (h0 : l.length = 0) :
    Calls Tryd.prog 114 #[.slice A l.length c] w (UnitPost w l) := by
  have hU : unitL l = (0, 0) := by rw [List.eq_nil_of_length_eq_zero h0]; rfl
  rw [h0]
  have HU := Aside0.mk hU
  clear hU hr h0
  have HB := Aside0.mk (below_alloc (Below.refl w.heap.size w) (.cells #[.slice A 0 c] 22))
  go_enter Tryd.func114, Tryd.ntmps114
  go_wp2
  go_ret2
  exact UnitPost.mk' HU.out HB.out
set_option maxHeartbeats 8000000 in
set_option maxRecDepth 100000 in
theorem unit_short (l : List Int) (A : Option Addr) (c : Nat) (w : World) (hby : Bytes l) (hr : Kd.C (Kd.int .u8) w A l.length l) (hc : l.length ≤ c) (h0 : 0 < l.length) (h1 : l.getD 0 0 ≤ 127 ∨ (l.getD 0 0 / 32 ≠ 6 ∧ l.getD 0 0 / 16 ≠ 14)) :
    Calls Tryd.prog 114 #[.slice A l.length c] w (UnitPost w l) := by
  have HB := Aside0.mk (below_alloc (Below.refl w.heap.size w) (.cells #[.slice A l.length c] 22))
  have HC := Aside0.mk (Kd.C_alloc hr (.cells #[.slice A l.length c] 22))
  have hz := getD_byte hby 0
  have hn0 : ((l.length : Int) == 0) = false := beq_eq_false_iff_ne.2 (by omega)
  have hltz : (0 : Int) < (l.length : Int) := by omega
  obtain ⟨ad, e1, hcell⟩ := Kd.at_int HC.out (0 : Int) (by omega) hltz
  cases e1
  rw [show rd l 0 = l.getD 0 0 from rfl, show (0 : Int).toNat = 0 from rfl, add_zero'] at hcell
  have e3 := u8_two _ hz.1 hz.2
  have e4 := u8_three _ hz.1 hz.2
  have hUn : unitL l = if l.getD 0 0 = 0 then (0, 0) else if l.getD 0 0 ≤ 127 then (l.getD 0 0, 1) else (0, 0) := by
    unfold unitL unitN
    by_cases a0 : l.getD 0 0 = 0
    · rw [if_pos (.inr a0), if_pos a0]
    · rw [if_neg (by omega), if_neg a0]
      by_cases a1 : l.getD 0 0 ≤ 127
      · rw [if_pos a1, if_pos a1]
      · rw [if_neg a1, if_neg a1, if_neg (by omega), if_neg (by omega)]
  have HU := Aside0.mk hUn
  have HBY := Aside0.mk hby
  clear hUn hr hby hc
  generalize l.getD 0 0 = x at *
  by_cases a0 : x = 0
  · have hx0 : (x == 0) = true := by simp [a0]
    rw [if_pos a0] at HU
    clear e3 e4 a0 h1
    go_enter Tryd.func114, Tryd.ntmps114
    go_wp2
    go_ret2
    exact UnitPost.mk' HU.out HB.out
  · have hx0 : (x == 0) = false := by simp [a0]
    rw [if_neg a0] at HU
    by_cases a1 : x ≤ 127
    · rw [if_pos a1] at HU
      have a1d : decide (x ≤ 127) = true := decide_eq_true a1
      clear e3 e4 a0 h1
      go_enter Tryd.func114, Tryd.ntmps114
      go_wp2
      go_ret2
      exact UnitPost.mk' HU.out HB.out
    · rw [if_neg a1] at HU
      have a1d : decide (x ≤ 127) = false := decide_eq_false a1
      rw [decide_eq_false (by omega)] at e3 e4
      clear a0 h1
      go_enter Tryd.func114, Tryd.ntmps114
      go_wp2
      go_ret2
      exact UnitPost.mk' HU.out HB.out

theorem cell_box (w : World) (v : Value) (T : TypeId) : (w.alloc (.cells #[v] T)).cell? ⟨w.heap.size, 0, none⟩ = some v := by
  rw [cell_of_row _ w.heap.size 0 #[v] T (0, 0) (heap_alloc_new w _)]; rfl
theorem moreB_true {l : List Int} {i : Nat} (h : moreB l i = true) : i < l.length ∧ l.getD i 0 / 64 = 2 := of_decide_eq_true h
theorem moreB_false {l : List Int} {i : Nat} (h : moreB l i = false) : ¬ (i < l.length ∧ l.getD i 0 / 64 = 2) := of_decide_eq_false h
theorem unitL_def (l : List Int) : unitL l = unitN l.length (l.getD 0 0) (l.getD 1 0) (l.getD 2 0) := rfl
theorem at_byte {W : World} {l : List Int} {ad : Addr} (hr : Kd.C (Kd.int .u8) W (some ad) l.length l) (i : Nat) (hi : i < l.length) : W.cell? (ad.add i) = some (.int .u8 (l.getD i 0)) := by
  obtain ⟨ad', e1, hcell⟩ := Kd.at_int hr (i : Int) (by omega) (by omega)
  cases e1
  rwa [rd_getD, Int.toNat_natCast] at hcell
theorem bnot {p : Bool} (h : ¬ p = true) : p = false := by cases p <;> simp_all
set_option maxHeartbeats 8000000 in
set_option maxRecDepth 100000 in
theorem unit_two (l : List Int) (A : Option Addr) (c : Nat) (w : World) (hby : Bytes l) (hr : Kd.C (Kd.int .u8) w A l.length l) (hc : l.length ≤ c) (h0 : 0 < l.length) (h1 : l.getD 0 0 / 32 = 6) :
    Calls Tryd.prog 114 #[.slice A l.length c] w (UnitPost w l) := by
  have HB := Aside0.mk (below_alloc (Below.refl w.heap.size w) (.cells #[.slice A l.length c] 22))
  have HC := Aside0.mk (Kd.C_alloc hr (.cells #[.slice A l.length c] 22))
  have hz := getD_byte hby 0
  have hy := getD_byte hby 1
  have hn0 : ((l.length : Int) == 0) = false := beq_eq_false_iff_ne.2 (by omega)
  have hltz : (0 : Int) < (l.length : Int) := by omega
  obtain ⟨ad, e1, _⟩ := Kd.at_int HC.out (0 : Int) (by omega) hltz
  cases e1
  have hcell := at_byte HC.out 0 h0
  rw [add_zero'] at hcell
  have e3 := u8_two _ hz.1 hz.2
  have e4 := u8_three _ hz.1 hz.2
  rw [decide_eq_true h1] at e3
  rw [decide_eq_false (by omega)] at e4
  have hx0 : (l.getD 0 0 == 0) = false := by rw [beq_eq_false_iff_ne]; omega
  have a1d : decide (l.getD 0 0 ≤ 127) = false := decide_eq_false (by omega)
  have HM := Aside0.mk (more_calls l (some ad) c 1 w.heap.size (w.alloc (.cells #[.slice (some ad) l.length c] 22)) hby HC.out (by omega) (cell_box _ _ _))
  by_cases hm : moreB l 1 = true
  · rw [hm] at HM
    obtain ⟨m1, m2⟩ := moreB_true hm
    have hlt1 : (1 : Int) < (l.length : Int) := by omega
    have hcell1 := at_byte HC.out 1 m1
    rw [add_one'] at hcell1
    have hU : unitL l = if l.getD 0 0 % 32 * 64 + l.getD 1 0 % 64 ≠ 0 ∧ l.getD 0 0 % 32 * 64 + l.getD 1 0 % 64 ≤ 127 then (0, 0) else (l.getD 0 0 % 32 * 64 + l.getD 1 0 % 64, 2) := by
      rw [unitL_def, unitN, if_neg (by omega), if_neg (by omega), if_pos (by omega)]
    have HU := Aside0.mk hU
    clear hU hm m1 m2 hr hc hby
    generalize l.getD 0 0 = x at *
    generalize l.getD 1 0 = y at *
    have f1 : bits .and .u8 x 31 = x % 32 := u8_and31 x hz.1 (by omega)
    have f2 : bits .and .u8 y 63 = y % 64 := u8_and63 y hy.1 (by omega)
    have f3 : bits .or .i32 (x % 32 * 64) (y % 64) = x % 32 * 64 + y % 64 := i32_or6 _ _ (by omega) (by omega) (by omega) (by omega) (by omega)
    have f4 : 0 ≤ x % 32 ∧ x % 32 < 32 := by omega
    have f5 : 0 ≤ y % 64 ∧ y % 64 < 64 := by omega
    have f6 : IntKind.i32.wrap (x % 32 * 64) = x % 32 * 64 := by rw [IntKind.wrap_i32]; omega
    have f7 : IntKind.i32.wrap (x % 32) = x % 32 := by rw [IntKind.wrap_i32]; omega
    have f8 : IntKind.i32.wrap (y % 64) = y % 64 := by rw [IntKind.wrap_i32]; omega
    clear h1
    by_cases k1 : x % 32 * 64 + y % 64 = 0
    · have k2 : (x % 32 * 64 + y % 64 != 0) = false := by simp [k1]
      rw [if_neg (by omega)] at HU
      have HK := Aside0.mk k1
      clear k1
      go_enter Tryd.func114, Tryd.ntmps114
      go_wp2_with (go_at_call 115; refine HM.out.mono ?_; rintro e w' ⟨rfl, rfl⟩)
      go_quiet (fail)
      go_wp2
      go_ret2
      exact UnitPost.mk' HU.out (pw_below_drewN HB.out _)
    · have k2 : (x % 32 * 64 + y % 64 != 0) = true := by simp [k1]
      by_cases k3 : x % 32 * 64 + y % 64 ≤ 127
      · have k4 : decide (x % 32 * 64 + y % 64 ≤ 127) = true := decide_eq_true k3
        rw [if_pos ⟨k1, k3⟩] at HU
        clear k1 k3
        go_enter Tryd.func114, Tryd.ntmps114
        go_wp2_with (go_at_call 115; refine HM.out.mono ?_; rintro e w' ⟨rfl, rfl⟩)
        go_quiet (fail)
        go_wp2
        go_ret2
        exact UnitPost.mk' HU.out (pw_below_drewN HB.out _)
      · have k4 : decide (x % 32 * 64 + y % 64 ≤ 127) = false := decide_eq_false k3
        rw [if_neg (by omega)] at HU
        clear k1 k3
        go_enter Tryd.func114, Tryd.ntmps114
        go_wp2_with (go_at_call 115; refine HM.out.mono ?_; rintro e w' ⟨rfl, rfl⟩)
        go_quiet (fail)
        go_wp2
        go_ret2
        exact UnitPost.mk' HU.out (pw_below_drewN HB.out _)
  · have hm := bnot hm
    rw [hm] at HM
    have hU : unitL l = (0, 0) := by
      have := moreB_false hm
      rw [unitL_def, unitN, if_neg (by omega), if_neg (by omega), if_neg (by omega), if_neg (by omega)]
    have HU := Aside0.mk hU
    clear hU hm hr hc hby
    generalize l.getD 0 0 = x at *
    clear h1
    go_enter Tryd.func114, Tryd.ntmps114
    go_wp2_with (go_at_call 115; refine HM.out.mono ?_; rintro e w' ⟨rfl, rfl⟩)
    go_ret2
    exact UnitPost.mk' HU.out HB.out

end Go.Proofs.YtkhigagkgpfpfaaDoor.Ext

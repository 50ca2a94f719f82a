/- The Go function text.unit at three bytes, walked. -/
import Derived.Test.YtkhigagkgpfpfaaDoorTextTake
set_option linter.unusedVariables false
set_option linter.unusedSimpArgs false
namespace Go.Proofs.YtkhigagkgpfpfaaDoor.Ext
open Go.RowKit Go.Lib Go.Proofs.YtkhigagkgpfpfaaDoorW.PrintWords Go.Proofs.YtkhigagkgpfpfaaDoorW.PrintLast Go.Proofs.YtkhigagkgpfpfaaDoorW.PrintMore
attribute [local go_sem] max2_int min2_int max_two min_two max_three min_three max_four min_four

set_option maxHeartbeats 16000000 in
set_option maxRecDepth 100000 in
theorem unit_three (l : List Int) (A : Option Addr) (c : Nat) (w : World) (hby : Bytes l) (hr : Kd.C (Kd.int .u8) w A l.length l) (hc : l.length ≤ c) (h0 : 0 < l.length) (h1 : l.getD 0 0 / 16 = 14) :
    Calls Tryd.prog 114 #[.slice A l.length c] w (UnitPost w l) := by
  have HB := Aside0.mk (below_alloc (Below.refl w.heap.size w) (.cells #[.slice A l.length c] 22))
  have HC := Aside0.mk (Kd.C_alloc hr (.cells #[.slice A l.length c] 22))
  have hz := getD_byte hby 0
  have hy := getD_byte hby 1
  have hv := getD_byte hby 2
  have hn0 : ((l.length : Int) == 0) = false := beq_eq_false_iff_ne.2 (by omega)
  have hltz : (0 : Int) < (l.length : Int) := by omega
  obtain ⟨ad, e1, _⟩ := Kd.at_int HC.out (0 : Int) (by omega) hltz
  cases e1
  have hcell := at_byte HC.out 0 h0
  rw [add_zero'] at hcell
  have e3 := u8_two _ hz.1 hz.2
  have e4 := u8_three _ hz.1 hz.2
  rw [decide_eq_true h1] at e4
  rw [decide_eq_false (by omega)] at e3
  have hx0 : (l.getD 0 0 == 0) = false := by rw [beq_eq_false_iff_ne]; omega
  have a1d : decide (l.getD 0 0 ≤ 127) = false := decide_eq_false (by omega)
  have hm1 := more_calls l (some ad) c 1 w.heap.size (w.alloc (.cells #[.slice (some ad) l.length c] 22)) hby HC.out (by omega) (cell_box _ _ _)
  rw [show (((1 : Nat)) : Int) = 1 from rfl] at hm1
  have HM := Aside0.mk hm1
  clear hm1
  have hm2 := more_calls l (some ad) c 2 w.heap.size (w.alloc (.cells #[.slice (some ad) l.length c] 22)) hby HC.out (by omega) (cell_box _ _ _)
  rw [show (((2 : Nat)) : Int) = 2 from rfl] at hm2
  have HM2 := Aside0.mk hm2
  clear hm2
  by_cases hm : moreB l 1 = true
  · rw [hm] at HM
    obtain ⟨m1, m2⟩ := moreB_true hm
    by_cases hn : moreB l 2 = true
    · rw [hn] at HM2
      obtain ⟨n1, n2⟩ := moreB_true hn
      have hlt1 : (1 : Int) < (l.length : Int) := by omega
      have hlt2 : (2 : Int) < (l.length : Int) := by omega
      have hcell1 := at_byte HC.out 1 m1
      have hcell2 := at_byte HC.out 2 n1
      rw [add_one'] at hcell1
      rw [add_two'] at hcell2
      have hU : unitL l = if l.getD 0 0 % 16 * 4096 + l.getD 1 0 % 64 * 64 + l.getD 2 0 % 64 ≤ 2047 then (0, 0) else (l.getD 0 0 % 16 * 4096 + l.getD 1 0 % 64 * 64 + l.getD 2 0 % 64, 3) := by
        rw [unitL_def, unitN, if_neg (by omega), if_neg (by omega), if_neg (by omega), if_pos (by omega)]
      have HU := Aside0.mk hU
      clear hU hm hn m1 m2 n1 n2 hr hc hby
      generalize l.getD 0 0 = x at *
      generalize l.getD 1 0 = y at *
      generalize l.getD 2 0 = z at *
      have f1 : bits .and .u8 x 15 = x % 16 := u8_and15 x hz.1 (by omega)
      have f2 : bits .and .u8 y 63 = y % 64 := u8_and63 y hy.1 (by omega)
      have f2z : bits .and .u8 z 63 = z % 64 := u8_and63 z hv.1 (by omega)
      have f3 : bits .or .i32 (x % 16 * 4096) (y % 64 * 64) = x % 16 * 4096 + y % 64 * 64 := i32_or12 _ _ (by omega) (by omega) (by omega) (by omega) (by omega)
      have f3z : bits .or .i32 (x % 16 * 4096 + y % 64 * 64) (z % 64) = x % 16 * 4096 + y % 64 * 64 + z % 64 := i32_or6 _ _ (by omega) (by omega) (by omega) (by omega) (by omega)
      have f4 : 0 ≤ x % 16 ∧ x % 16 < 16 := by omega
      have f5 : 0 ≤ y % 64 ∧ y % 64 < 64 := by omega
      have f5z : 0 ≤ z % 64 ∧ z % 64 < 64 := by omega
      have f6 : IntKind.i32.wrap (x % 16 * 4096) = x % 16 * 4096 := by rw [IntKind.wrap_i32]; omega
      have f6y : IntKind.i32.wrap (y % 64 * 64) = y % 64 * 64 := by rw [IntKind.wrap_i32]; omega
      have f7 : IntKind.i32.wrap (x % 16) = x % 16 := by rw [IntKind.wrap_i32]; omega
      have f8 : IntKind.i32.wrap (y % 64) = y % 64 := by rw [IntKind.wrap_i32]; omega
      have f8z : IntKind.i32.wrap (z % 64) = z % 64 := by rw [IntKind.wrap_i32]; omega
      clear h1
      by_cases k3 : x % 16 * 4096 + y % 64 * 64 + z % 64 ≤ 2047
      · have k4 : decide (x % 16 * 4096 + y % 64 * 64 + z % 64 ≤ 2047) = true := decide_eq_true k3
        rw [if_pos k3] at HU
        clear k3
        go_enter Tryd.func114, Tryd.ntmps114
        go_wp2_with (go_at_call 115; first | ((with_reducible refine HM.out.mono ?_); rintro e w' ⟨rfl, rfl⟩) | ((with_reducible refine HM2.out.mono ?_); rintro e w' ⟨rfl, rfl⟩))
        go_quiet (fail)
        go_wp2
        go_ret2
        exact UnitPost.mk' HU.out (pw_below_drewN HB.out _)
      · have k4 : decide (x % 16 * 4096 + y % 64 * 64 + z % 64 ≤ 2047) = false := decide_eq_false k3
        rw [if_neg k3] at HU
        clear k3
        go_enter Tryd.func114, Tryd.ntmps114
        go_wp2_with (go_at_call 115; first | ((with_reducible refine HM.out.mono ?_); rintro e w' ⟨rfl, rfl⟩) | ((with_reducible refine HM2.out.mono ?_); rintro e w' ⟨rfl, rfl⟩))
        go_quiet (fail)
        go_wp2
        go_ret2
        exact UnitPost.mk' HU.out (pw_below_drewN HB.out _)
    · have hn := bnot hn
      rw [hn] at HM2
      have hU : unitL l = (0, 0) := by
        have := moreB_false hn
        rw [unitL_def, unitN, if_neg (by omega), if_neg (by omega), if_neg (by omega), if_neg (by omega)]
      have HU := Aside0.mk hU
      clear hU hm hn m1 m2 hr hc hby
      generalize l.getD 0 0 = x at *
      clear h1
      go_enter Tryd.func114, Tryd.ntmps114
      go_wp2_with (go_at_call 115; first | ((with_reducible refine HM.out.mono ?_); rintro e w' ⟨rfl, rfl⟩) | ((with_reducible refine HM2.out.mono ?_); rintro e w' ⟨rfl, rfl⟩))
      go_ret2
      exact UnitPost.mk' HU.out HB.out
  · have hm := bnot hm
    rw [hm] at HM
    have hU : unitL l = (0, 0) := by
      have := moreB_false hm
      rw [unitL_def, unitN, if_neg (by omega), if_neg (by omega), if_neg (by omega), if_neg (by omega)]
    have HU := Aside0.mk hU
    clear hU hm hr hc hby
    generalize l.getD 0 0 = x at *
    clear h1
    go_enter Tryd.func114, Tryd.ntmps114
    go_wp2_with (go_at_call 115; refine HM.out.mono ?_; rintro e w' ⟨rfl, rfl⟩)
    go_ret2
    exact UnitPost.mk' HU.out HB.out
theorem unit_calls (l : List Int) (A : Option Addr) (c : Nat) (w : World) (hby : Bytes l) (hr : Kd.C (Kd.int .u8) w A l.length l) (hc : l.length ≤ c) :
    Calls Tryd.prog 114 #[.slice A l.length c] w (UnitPost w l) := by
  by_cases h0 : l.length = 0
  · exact unit_none l A c w hr h0
  · by_cases h1 : l.getD 0 0 / 32 = 6
    · exact unit_two l A c w hby hr hc (by omega) h1
    · by_cases h2 : l.getD 0 0 / 16 = 14
      · exact unit_three l A c w hby hr hc (by omega) h2
      · exact unit_short l A c w hby hr hc (by omega) (.inr ⟨h1, h2⟩)
end Go.Proofs.YtkhigagkgpfpfaaDoor.Ext

/- The Go function warpbeamref02.unit, walked. -/
import Derived.Test.YtkhigagkgpfpfaaDoorTextRefEnc
set_option linter.unusedVariables false
set_option linter.unusedSimpArgs false
namespace Go.Proofs.YtkhigagkgpfpfaaDoor.Ext
open Go.RowKit Go.Lib Go.Proofs.YtkhigagkgpfpfaaDoorW.PrintWords Go.Proofs.YtkhigagkgpfpfaaDoorW.PrintLast Go.Proofs.YtkhigagkgpfpfaaDoorW.PrintMore Go.Proofs.YtkhigagkgpfpfaaDoor.PLeb
attribute [local go_sem] max2_int min2_int max_two min_two max_three min_three max_four min_four

def runitN (n : Nat) (x y z : Int) : Int × Int :=
  if 1 ≤ n ∧ (1 ≤ x ∧ x ≤ 127) then (x, 1) else if 2 ≤ n ∧ x / 32 = 6 ∧ y / 64 = 2 then (x % 32 * 64 + y % 64, 2) else if 3 ≤ n ∧ x / 16 = 14 ∧ y / 64 = 2 ∧ z / 64 = 2 then (x % 16 * 4096 + y % 64 * 64 + z % 64, 3) else (0, 0)
def runitL (b : List Int) : Int × Int := runitN b.length (b.getD 0 0) (b.getD 1 0) (b.getD 2 0)
def RunitPost (w : World) (b : List Int) (e : Ending) (w' : World) : Prop := e = .returned (.tuple #[.int .i64 (runitL b).1, .int .i64 (runitL b).2]) ∧ Below w.heap.size w w'
theorem RunitPost.mk' {w : World} {l : List Int} {w' : World} {a b : Int} (h : runitL l = (a, b)) (hb : Below w.heap.size w w') : RunitPost w l (.returned (.tuple #[.int .i64 a, .int .i64 b])) w' := by
  unfold RunitPost; rw [h]; exact ⟨rfl, hb⟩
theorem add_pos (a : Addr) (n : Nat) (h : 0 < n) : a.add n = ⟨a.block, a.off + n, none⟩ := by unfold Addr.add; rw [if_neg (by omega)]
theorem drop_getD (l : List Int) (a j : Nat) : (l.drop a).getD j 0 = l.getD (a + j) 0 := by simp [List.getD, List.getElem?_drop]
set_option maxHeartbeats 8000000 in
set_option maxRecDepth 100000 in
theorem runit_0 (l : List Int) (A : Option Addr) (c at_ : Nat) (w : World) (hm : (l.length : Int) ≤ 4611686018427387904) (hat : at_ = l.length) :
    Calls Tryd.prog 86 #[.slice A l.length c, .int .i64 (at_ : Int)] w (RunitPost w (l.drop at_)) := by
  have hU : runitL (l.drop at_) = (0, 0) := by rw [hat, List.drop_of_length_le (Nat.le_refl _)]; rfl
  have HU := Aside0.mk hU
  have HB := Aside0.mk (Below.refl w.heap.size w)
  subst hat
  clear hU
  go_enter Tryd.func86, Tryd.ntmps86
  go_wp2
  refine wp_loop_rounds 1 ?_; rw [rounds_succ]
  go_wp2
  go_ret2
  exact RunitPost.mk' HU.out (below_alloc HB.out _)
set_option maxHeartbeats 16000000 in
set_option maxRecDepth 100000 in
theorem runit_1 (l : List Int) (A : Option Addr) (c at_ : Nat) (w : World) (hby : Bytes l) (hr : Kd.C (Kd.int .u8) w A l.length l) (hm : (l.length : Int) ≤ 4611686018427387904) (hat : at_ + 1 = l.length) :
    Calls Tryd.prog 86 #[.slice A l.length c, .int .i64 (at_ : Int)] w (RunitPost w (l.drop at_)) := by
  have HB := Aside0.mk (Below.refl w.heap.size w)
  have hUd : runitL (l.drop at_) = runitN (l.length - at_) (l.getD at_ 0) (l.getD (at_ + 1) 0) (l.getD (at_ + 2) 0) := by unfold runitL; rw [List.length_drop, drop_getD, drop_getD, drop_getD]; rfl
  have rx := getD_byte hby at_
  have tx : ((at_ : Int) < (l.length : Int)) := by omega
  have ta : (0 : Int) ≤ (at_ : Int) := by omega
  have zy : l.getD (at_ + 1) 0 = 0 := by rw [List.getD_eq_getElem?_getD, List.getElem?_eq_none (by omega)]; rfl
  have zz : l.getD (at_ + 2) 0 = 0 := by rw [List.getD_eq_getElem?_getD, List.getElem?_eq_none (by omega)]; rfl
  rw [zy, zz] at hUd
  have hle : (l.length : Int) - (at_ : Int) = 1 := by omega
  have hln : l.length - at_ = 1 := by omega
  rw [hln] at hUd
  obtain ⟨ad, e1, _⟩ := Kd.at_int (Kd.C_alloc hr (.cells #[.int .i64 0, .int .i64 0, .int .i64 0] 113)) (at_ : Int) ta tx
  cases e1
  have cx : ∀ o : Obj, (w.alloc o).cell? (ad.add (at_ + 0)) = some (.int .u8 (l.getD (at_ + 0) 0)) := fun o => at_byte (Kd.C_alloc hr o) (at_ + 0) (by omega)
  rw [Nat.add_zero] at cx
  generalize l.getD at_ 0 = x at *
  clear hby hat
  by_cases k1 : 1 ≤ x ∧ x ≤ 127
  · have k1a := k1.1
    have k1b := k1.2
    have p1 : decide (1 ≤ x) = true := decide_eq_true (by omega)
    have p2 : decide (x ≤ 127) = true := decide_eq_true (by omega)
    have HU := Aside0.mk (show runitL (l.drop at_) = (x, 1) by rw [hUd]; unfold runitN; rw [if_pos (by omega)])
    clear hUd
    clear k1 k1a k1b
    go_enter Tryd.func86, Tryd.ntmps86
    go_wp2
    refine wp_loop_rounds 2 ?_; rw [rounds_succ]
    go_wp2
    rw [rounds_succ]
    go_wp2
    go_ret2
    exact RunitPost.mk' HU.out (below_alloc HB.out _)
  · by_cases k0 : x = 0
    · have p1 : decide (1 ≤ x) = false := decide_eq_false (by omega)
      have p3 : (x / 32 == 6) = false := by rw [beq_eq_false_iff_ne]; omega
      have p5 : (x / 16 == 14) = false := by rw [beq_eq_false_iff_ne]; omega
      have HU := Aside0.mk (show runitL (l.drop at_) = (0, 0) by rw [hUd]; unfold runitN; rw [if_neg (by omega), if_neg (by omega), if_neg (by omega)])
      clear hUd
      clear k1 k0
      go_enter Tryd.func86, Tryd.ntmps86
      go_wp2
      refine wp_loop_rounds 2 ?_; rw [rounds_succ]
      go_wp2
      rw [rounds_succ]
      go_wp2
      go_ret2
      exact RunitPost.mk' HU.out (below_alloc HB.out _)
    · have p1 : decide (1 ≤ x) = true := decide_eq_true (by omega)
      have p2 : decide (x ≤ 127) = false := decide_eq_false (by omega)
      have HU := Aside0.mk (show runitL (l.drop at_) = (0, 0) by rw [hUd]; unfold runitN; rw [if_neg (by omega), if_neg (by omega), if_neg (by omega)])
      clear hUd
      clear k1 k0
      go_enter Tryd.func86, Tryd.ntmps86
      go_wp2
      refine wp_loop_rounds 2 ?_; rw [rounds_succ]
      go_wp2
      rw [rounds_succ]
      go_wp2
      go_ret2
      exact RunitPost.mk' HU.out (below_alloc HB.out _)
set_option maxHeartbeats 16000000 in
set_option maxRecDepth 100000 in
theorem runit_2 (l : List Int) (A : Option Addr) (c at_ : Nat) (w : World) (hby : Bytes l) (hr : Kd.C (Kd.int .u8) w A l.length l) (hm : (l.length : Int) ≤ 4611686018427387904) (hat : at_ + 2 = l.length) :
    Calls Tryd.prog 86 #[.slice A l.length c, .int .i64 (at_ : Int)] w (RunitPost w (l.drop at_)) := by
  have HB := Aside0.mk (Below.refl w.heap.size w)
  have hUd : runitL (l.drop at_) = runitN (l.length - at_) (l.getD at_ 0) (l.getD (at_ + 1) 0) (l.getD (at_ + 2) 0) := by unfold runitL; rw [List.length_drop, drop_getD, drop_getD, drop_getD]; rfl
  have rx := getD_byte hby at_
  have tx : ((at_ : Int) < (l.length : Int)) := by omega
  have ry := getD_byte hby (at_ + 1)
  have ty : ((at_ : Int) + 1 < (l.length : Int)) := by omega
  have ta : (0 : Int) ≤ (at_ : Int) := by omega
  have zz : l.getD (at_ + 2) 0 = 0 := by rw [List.getD_eq_getElem?_getD, List.getElem?_eq_none (by omega)]; rfl
  rw [zz] at hUd
  have hle : (l.length : Int) - (at_ : Int) = 2 := by omega
  have hln : l.length - at_ = 2 := by omega
  rw [hln] at hUd
  obtain ⟨ad, e1, _⟩ := Kd.at_int (Kd.C_alloc hr (.cells #[.int .i64 0, .int .i64 0, .int .i64 0] 113)) (at_ : Int) ta tx
  cases e1
  have cx : ∀ o : Obj, (w.alloc o).cell? (ad.add (at_ + 0)) = some (.int .u8 (l.getD (at_ + 0) 0)) := fun o => at_byte (Kd.C_alloc hr o) (at_ + 0) (by omega)
  have cy : ∀ o : Obj, (w.alloc o).cell? (ad.add (at_ + 1)) = some (.int .u8 (l.getD (at_ + 1) 0)) := fun o => at_byte (Kd.C_alloc hr o) (at_ + 1) (by omega)
  rw [add_pos ad (at_ + 1) (by omega)] at cy
  rw [Nat.add_zero] at cx
  generalize l.getD at_ 0 = x at *
  generalize l.getD (at_ + 1) 0 = y at *
  clear hby hat
  have f5 : bits .and .i64 x 31 = x % 32 := i64_and 5 (by omega) _ (by omega) (by omega)
  have f6 : bits .and .i64 y 63 = y % 64 := i64_and 6 (by omega) _ (by omega) (by omega)
  have f7 : bits .or .i64 (x % 32 * 64) (y % 64) = x % 32 * 64 + y % 64 := i64_orj 6 (by omega) _ _ (by omega) (by omega) (by omega) (by omega) (by omega)
  by_cases k1 : 1 ≤ x ∧ x ≤ 127
  · have k1a := k1.1
    have k1b := k1.2
    have p1 : decide (1 ≤ x) = true := decide_eq_true (by omega)
    have p2 : decide (x ≤ 127) = true := decide_eq_true (by omega)
    have HU := Aside0.mk (show runitL (l.drop at_) = (x, 1) by rw [hUd]; unfold runitN; rw [if_pos (by omega)])
    clear hUd
    clear k1 k1a k1b
    go_enter Tryd.func86, Tryd.ntmps86
    go_wp2
    refine wp_loop_rounds 3 ?_; rw [rounds_succ]
    go_wp2
    rw [rounds_succ]
    go_wp2
    rw [rounds_succ]
    go_wp2
    go_ret2
    exact RunitPost.mk' HU.out (below_alloc HB.out _)
  · by_cases k0 : x = 0
    · have p1 : decide (1 ≤ x) = false := decide_eq_false (by omega)
      have p3 : (x / 32 == 6) = false := by rw [beq_eq_false_iff_ne]; omega
      have p5 : (x / 16 == 14) = false := by rw [beq_eq_false_iff_ne]; omega
      have HU := Aside0.mk (show runitL (l.drop at_) = (0, 0) by rw [hUd]; unfold runitN; rw [if_neg (by omega), if_neg (by omega), if_neg (by omega)])
      clear hUd
      clear k1 k0
      go_enter Tryd.func86, Tryd.ntmps86
      go_wp2
      refine wp_loop_rounds 3 ?_; rw [rounds_succ]
      go_wp2
      rw [rounds_succ]
      go_wp2
      rw [rounds_succ]
      go_wp2
      go_ret2
      exact RunitPost.mk' HU.out (below_alloc HB.out _)
    · by_cases k3 : x / 32 = 6
      · by_cases k4 : y / 64 = 2
        · have p1 : decide (1 ≤ x) = true := decide_eq_true (by omega)
          have p2 : decide (x ≤ 127) = false := decide_eq_false (by omega)
          have p3 : (x / 32 == 6) = true := by simp only [beq_iff_eq]; omega
          have p4 : (y / 64 == 2) = true := by simp only [beq_iff_eq]; omega
          have HU := Aside0.mk (show runitL (l.drop at_) = (x % 32 * 64 + y % 64, 2) by rw [hUd]; unfold runitN; rw [if_neg (by omega), if_pos (by omega)])
          clear hUd
          clear k1 k0 k3 k4
          go_enter Tryd.func86, Tryd.ntmps86
          go_wp2
          refine wp_loop_rounds 3 ?_; rw [rounds_succ]
          go_wp2
          rw [rounds_succ]
          go_wp2
          rw [rounds_succ]
          go_wp2
          go_ret2
          exact RunitPost.mk' HU.out (below_alloc HB.out _)
        · have p1 : decide (1 ≤ x) = true := decide_eq_true (by omega)
          have p2 : decide (x ≤ 127) = false := decide_eq_false (by omega)
          have p3 : (x / 32 == 6) = true := by simp only [beq_iff_eq]; omega
          have p4 : (y / 64 == 2) = false := by rw [beq_eq_false_iff_ne]; omega
          have HU := Aside0.mk (show runitL (l.drop at_) = (0, 0) by rw [hUd]; unfold runitN; rw [if_neg (by omega), if_neg (by omega), if_neg (by omega)])
          clear hUd
          clear k1 k0 k3 k4
          go_enter Tryd.func86, Tryd.ntmps86
          go_wp2
          refine wp_loop_rounds 3 ?_; rw [rounds_succ]
          go_wp2
          rw [rounds_succ]
          go_wp2
          rw [rounds_succ]
          go_wp2
          go_ret2
          exact RunitPost.mk' HU.out (below_alloc HB.out _)
      · have p1 : decide (1 ≤ x) = true := decide_eq_true (by omega)
        have p2 : decide (x ≤ 127) = false := decide_eq_false (by omega)
        have p3 : (x / 32 == 6) = false := by rw [beq_eq_false_iff_ne]; omega
        have HU := Aside0.mk (show runitL (l.drop at_) = (0, 0) by rw [hUd]; unfold runitN; rw [if_neg (by omega), if_neg (by omega), if_neg (by omega)])
        clear hUd
        clear k1 k0 k3
        go_enter Tryd.func86, Tryd.ntmps86
        go_wp2
        refine wp_loop_rounds 3 ?_; rw [rounds_succ]
        go_wp2
        rw [rounds_succ]
        go_wp2
        rw [rounds_succ]
        go_wp2
        go_ret2
        exact RunitPost.mk' HU.out (below_alloc HB.out _)
set_option maxHeartbeats 16000000 in
set_option maxRecDepth 100000 in
theorem runit_3 (l : List Int) (A : Option Addr) (c at_ : Nat) (w : World) (hby : Bytes l) (hr : Kd.C (Kd.int .u8) w A l.length l) (hm : (l.length : Int) ≤ 4611686018427387904) (hat : at_ + 3 ≤ l.length) :
    Calls Tryd.prog 86 #[.slice A l.length c, .int .i64 (at_ : Int)] w (RunitPost w (l.drop at_)) := by
  have HB := Aside0.mk (Below.refl w.heap.size w)
  have hUd : runitL (l.drop at_) = runitN (l.length - at_) (l.getD at_ 0) (l.getD (at_ + 1) 0) (l.getD (at_ + 2) 0) := by unfold runitL; rw [List.length_drop, drop_getD, drop_getD, drop_getD]; rfl
  have rx := getD_byte hby at_
  have tx : ((at_ : Int) < (l.length : Int)) := by omega
  have ry := getD_byte hby (at_ + 1)
  have ty : ((at_ : Int) + 1 < (l.length : Int)) := by omega
  have rz := getD_byte hby (at_ + 2)
  have tz : ((at_ : Int) + 2 < (l.length : Int)) := by omega
  have ta : (0 : Int) ≤ (at_ : Int) := by omega
  have hl1 : decide (1 ≤ (l.length : Int) - (at_ : Int)) = true := decide_eq_true (by omega)
  have hl2 : decide (2 ≤ (l.length : Int) - (at_ : Int)) = true := decide_eq_true (by omega)
  have hl3 : decide (3 ≤ (l.length : Int) - (at_ : Int)) = true := decide_eq_true (by omega)
  obtain ⟨q, hq, hq3⟩ : ∃ q, l.length - at_ = q ∧ 3 ≤ q := ⟨_, rfl, by omega⟩
  rw [hq] at hUd
  obtain ⟨ad, e1, _⟩ := Kd.at_int (Kd.C_alloc hr (.cells #[.int .i64 0, .int .i64 0, .int .i64 0] 113)) (at_ : Int) ta tx
  cases e1
  have cx : ∀ o : Obj, (w.alloc o).cell? (ad.add (at_ + 0)) = some (.int .u8 (l.getD (at_ + 0) 0)) := fun o => at_byte (Kd.C_alloc hr o) (at_ + 0) (by omega)
  have cy : ∀ o : Obj, (w.alloc o).cell? (ad.add (at_ + 1)) = some (.int .u8 (l.getD (at_ + 1) 0)) := fun o => at_byte (Kd.C_alloc hr o) (at_ + 1) (by omega)
  rw [add_pos ad (at_ + 1) (by omega)] at cy
  have cz : ∀ o : Obj, (w.alloc o).cell? (ad.add (at_ + 2)) = some (.int .u8 (l.getD (at_ + 2) 0)) := fun o => at_byte (Kd.C_alloc hr o) (at_ + 2) (by omega)
  rw [add_pos ad (at_ + 2) (by omega)] at cz
  rw [Nat.add_zero] at cx
  generalize l.getD at_ 0 = x at *
  generalize l.getD (at_ + 1) 0 = y at *
  generalize l.getD (at_ + 2) 0 = z at *
  clear hby hat
  have f5 : bits .and .i64 x 31 = x % 32 := i64_and 5 (by omega) _ (by omega) (by omega)
  have f6 : bits .and .i64 y 63 = y % 64 := i64_and 6 (by omega) _ (by omega) (by omega)
  have f7 : bits .or .i64 (x % 32 * 64) (y % 64) = x % 32 * 64 + y % 64 := i64_orj 6 (by omega) _ _ (by omega) (by omega) (by omega) (by omega) (by omega)
  have f8 : bits .and .i64 x 15 = x % 16 := i64_and 4 (by omega) _ (by omega) (by omega)
  have f9 : bits .and .i64 z 63 = z % 64 := i64_and 6 (by omega) _ (by omega) (by omega)
  have f10 : bits .or .i64 (x % 16 * 4096) (y % 64 * 64) = x % 16 * 4096 + y % 64 * 64 := i64_orj 12 (by omega) _ _ (by omega) (by omega) (by omega) (by omega) (by omega)
  have f11 : bits .or .i64 (x % 16 * 4096 + y % 64 * 64) (z % 64) = x % 16 * 4096 + y % 64 * 64 + z % 64 := i64_orj 6 (by omega) _ _ (by omega) (by omega) (by omega) (by omega) (by omega)
  by_cases k1 : 1 ≤ x ∧ x ≤ 127
  · have k1a := k1.1
    have k1b := k1.2
    have p1 : decide (1 ≤ x) = true := decide_eq_true (by omega)
    have p2 : decide (x ≤ 127) = true := decide_eq_true (by omega)
    have HU := Aside0.mk (show runitL (l.drop at_) = (x, 1) by rw [hUd]; unfold runitN; rw [if_pos (by omega)])
    clear hUd
    clear k1 k1a k1b
    go_enter Tryd.func86, Tryd.ntmps86
    go_wp2
    refine wp_loop_rounds 4 ?_; rw [rounds_succ]
    go_wp2
    rw [rounds_succ]
    go_wp2
    rw [rounds_succ]
    go_wp2
    rw [rounds_succ]
    go_wp2
    go_ret2
    exact RunitPost.mk' HU.out (below_alloc HB.out _)
  · by_cases k0 : x = 0
    · have p1 : decide (1 ≤ x) = false := decide_eq_false (by omega)
      have p3 : (x / 32 == 6) = false := by rw [beq_eq_false_iff_ne]; omega
      have p5 : (x / 16 == 14) = false := by rw [beq_eq_false_iff_ne]; omega
      have HU := Aside0.mk (show runitL (l.drop at_) = (0, 0) by rw [hUd]; unfold runitN; rw [if_neg (by omega), if_neg (by omega), if_neg (by omega)])
      clear hUd
      clear k1 k0
      go_enter Tryd.func86, Tryd.ntmps86
      go_wp2
      refine wp_loop_rounds 4 ?_; rw [rounds_succ]
      go_wp2
      rw [rounds_succ]
      go_wp2
      rw [rounds_succ]
      go_wp2
      rw [rounds_succ]
      go_wp2
      go_ret2
      exact RunitPost.mk' HU.out (below_alloc HB.out _)
    · by_cases k3 : x / 32 = 6
      · by_cases k4 : y / 64 = 2
        · have p1 : decide (1 ≤ x) = true := decide_eq_true (by omega)
          have p2 : decide (x ≤ 127) = false := decide_eq_false (by omega)
          have p3 : (x / 32 == 6) = true := by simp only [beq_iff_eq]; omega
          have p4 : (y / 64 == 2) = true := by simp only [beq_iff_eq]; omega
          have HU := Aside0.mk (show runitL (l.drop at_) = (x % 32 * 64 + y % 64, 2) by rw [hUd]; unfold runitN; rw [if_neg (by omega), if_pos (by omega)])
          clear hUd
          clear k1 k0 k3 k4
          go_enter Tryd.func86, Tryd.ntmps86
          go_wp2
          refine wp_loop_rounds 4 ?_; rw [rounds_succ]
          go_wp2
          rw [rounds_succ]
          go_wp2
          rw [rounds_succ]
          go_wp2
          rw [rounds_succ]
          go_wp2
          go_ret2
          exact RunitPost.mk' HU.out (below_alloc HB.out _)
        · have p1 : decide (1 ≤ x) = true := decide_eq_true (by omega)
          have p2 : decide (x ≤ 127) = false := decide_eq_false (by omega)
          have p3 : (x / 32 == 6) = true := by simp only [beq_iff_eq]; omega
          have p4 : (y / 64 == 2) = false := by rw [beq_eq_false_iff_ne]; omega
          have p5 : (x / 16 == 14) = false := by rw [beq_eq_false_iff_ne]; omega
          have HU := Aside0.mk (show runitL (l.drop at_) = (0, 0) by rw [hUd]; unfold runitN; rw [if_neg (by omega), if_neg (by omega), if_neg (by omega)])
          clear hUd
          clear k1 k0 k3 k4
          go_enter Tryd.func86, Tryd.ntmps86
          go_wp2
          refine wp_loop_rounds 4 ?_; rw [rounds_succ]
          go_wp2
          rw [rounds_succ]
          go_wp2
          rw [rounds_succ]
          go_wp2
          rw [rounds_succ]
          go_wp2
          go_ret2
          exact RunitPost.mk' HU.out (below_alloc HB.out _)
      · by_cases k5 : x / 16 = 14
        · by_cases k4 : y / 64 = 2
          · by_cases k6 : z / 64 = 2
            · have p1 : decide (1 ≤ x) = true := decide_eq_true (by omega)
              have p2 : decide (x ≤ 127) = false := decide_eq_false (by omega)
              have p3 : (x / 32 == 6) = false := by rw [beq_eq_false_iff_ne]; omega
              have p5 : (x / 16 == 14) = true := by simp only [beq_iff_eq]; omega
              have p4 : (y / 64 == 2) = true := by simp only [beq_iff_eq]; omega
              have p6 : (z / 64 == 2) = true := by simp only [beq_iff_eq]; omega
              have HU := Aside0.mk (show runitL (l.drop at_) = (x % 16 * 4096 + y % 64 * 64 + z % 64, 3) by rw [hUd]; unfold runitN; rw [if_neg (by omega), if_neg (by omega), if_pos (by omega)])
              clear hUd
              clear k1 k0 k3 k4 k5 k6
              go_enter Tryd.func86, Tryd.ntmps86
              go_wp2
              refine wp_loop_rounds 4 ?_; rw [rounds_succ]
              go_wp2
              rw [rounds_succ]
              go_wp2
              rw [rounds_succ]
              go_wp2
              rw [rounds_succ]
              go_wp2
              go_ret2
              exact RunitPost.mk' HU.out (below_alloc HB.out _)
            · have p1 : decide (1 ≤ x) = true := decide_eq_true (by omega)
              have p2 : decide (x ≤ 127) = false := decide_eq_false (by omega)
              have p3 : (x / 32 == 6) = false := by rw [beq_eq_false_iff_ne]; omega
              have p5 : (x / 16 == 14) = true := by simp only [beq_iff_eq]; omega
              have p4 : (y / 64 == 2) = true := by simp only [beq_iff_eq]; omega
              have p6 : (z / 64 == 2) = false := by rw [beq_eq_false_iff_ne]; omega
              have HU := Aside0.mk (show runitL (l.drop at_) = (0, 0) by rw [hUd]; unfold runitN; rw [if_neg (by omega), if_neg (by omega), if_neg (by omega)])
              clear hUd
              clear k1 k0 k3 k4 k5 k6
              go_enter Tryd.func86, Tryd.ntmps86
              go_wp2
              refine wp_loop_rounds 4 ?_; rw [rounds_succ]
              go_wp2
              rw [rounds_succ]
              go_wp2
              rw [rounds_succ]
              go_wp2
              rw [rounds_succ]
              go_wp2
              go_ret2
              exact RunitPost.mk' HU.out (below_alloc HB.out _)
          · have p1 : decide (1 ≤ x) = true := decide_eq_true (by omega)
            have p2 : decide (x ≤ 127) = false := decide_eq_false (by omega)
            have p3 : (x / 32 == 6) = false := by rw [beq_eq_false_iff_ne]; omega
            have p5 : (x / 16 == 14) = true := by simp only [beq_iff_eq]; omega
            have p4 : (y / 64 == 2) = false := by rw [beq_eq_false_iff_ne]; omega
            have HU := Aside0.mk (show runitL (l.drop at_) = (0, 0) by rw [hUd]; unfold runitN; rw [if_neg (by omega), if_neg (by omega), if_neg (by omega)])
            clear hUd
            clear k1 k0 k3 k4 k5
            go_enter Tryd.func86, Tryd.ntmps86
            go_wp2
            refine wp_loop_rounds 4 ?_; rw [rounds_succ]
            go_wp2
            rw [rounds_succ]
            go_wp2
            rw [rounds_succ]
            go_wp2
            rw [rounds_succ]
            go_wp2
            go_ret2
            exact RunitPost.mk' HU.out (below_alloc HB.out _)
        · have p1 : decide (1 ≤ x) = true := decide_eq_true (by omega)
          have p2 : decide (x ≤ 127) = false := decide_eq_false (by omega)
          have p3 : (x / 32 == 6) = false := by rw [beq_eq_false_iff_ne]; omega
          have p5 : (x / 16 == 14) = false := by rw [beq_eq_false_iff_ne]; omega
          have HU := Aside0.mk (show runitL (l.drop at_) = (0, 0) by rw [hUd]; unfold runitN; rw [if_neg (by omega), if_neg (by omega), if_neg (by omega)])
          clear hUd
          clear k1 k0 k3 k5
          go_enter Tryd.func86, Tryd.ntmps86
          go_wp2
          refine wp_loop_rounds 4 ?_; rw [rounds_succ]
          go_wp2
          rw [rounds_succ]
          go_wp2
          rw [rounds_succ]
          go_wp2
          rw [rounds_succ]
          go_wp2
          go_ret2
          exact RunitPost.mk' HU.out (below_alloc HB.out _)
theorem runit_calls (l : List Int) (A : Option Addr) (c at_ : Nat) (w : World) (hby : Bytes l) (hr : Kd.C (Kd.int .u8) w A l.length l) (hm : (l.length : Int) ≤ 4611686018427387904) (hat : at_ ≤ l.length) :
    Calls Tryd.prog 86 #[.slice A l.length c, .int .i64 (at_ : Int)] w (RunitPost w (l.drop at_)) := by
  rcases (show at_ = l.length ∨ at_ + 1 = l.length ∨ at_ + 2 = l.length ∨ at_ + 3 ≤ l.length by omega) with h | h | h | h
  · exact runit_0 l A c at_ w hm h
  · exact runit_1 l A c at_ w hby hr hm h
  · exact runit_2 l A c at_ w hby hr hm h
  · exact runit_3 l A c at_ w hby hr hm h
end Go.Proofs.YtkhigagkgpfpfaaDoor.Ext

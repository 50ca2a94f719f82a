/- The statements' own examples of package leb ('works') come through: it returns true. -/
import Derived.Test.YtmfipofoeigleaaPLebx1
import Derived.Test.YtmfipofoeigleaaPLebx4
import Derived.Test.YtmfipofoeigleaaPLebx6
set_option linter.unusedVariables false
set_option linter.unusedSimpArgs false
namespace Go.Proofs.Ytmfipofoeigleaa.Ext
open Go.RowKit Go.Proofs.YtmfipofoeigleaaW.PrintWords Go.Proofs.YtmfipofoeigleaaW.PrintLast Go.Proofs.YtmfipofoeigleaaW.PrintMore Go.Proofs.Ytmfipofoeigleaa.PLeb
attribute [local go_sem] max2_int min2_int max_two min_two max_three min_three max_four min_four

theorem lit_C (l : List Int) (n : Nat) (hn : l.length = n) (W : World) (C : Array Value) (hC : C.toList = nums .u8 l) (fr : Nat × Nat) (hm : l.length ≤ 9223372036854775807) : Kd.C (Kd.int .u8) (W.alloc (.cells C 5 fr)) (some ⟨W.heap.size, 0, none⟩) l.length l := by
  refine Kd.C_of_reads (d := (0 : Int)) (h1 := fun _ => rfl) ⟨rfl, hm, fun _ => ⟨_, rfl, fun j hj => ?_⟩⟩
  rw [add_plain, cell_of_row _ W.heap.size j C 5 fr (heap_alloc_new W _), ← Array.getElem?_toList, hC]
  simp [nums, List.getElem?_eq_getElem hj, List.getD_eq_getElem?_getD]
section
variable {w : World} {A0 A1 : Option Addr} {c0 c1 : Nat}
theorem lb_big (a0 a1 : Int) {r2 : List Int} {r1 : Int} (h : leb_Big.f a0 a1 = some (r2, r1)) :
    Calls Try.prog 24 #[.int .i64 a0, .int .i64 a1] w fun e w' => ∃ v0_ : Value, e = .returned (.tuple #[v0_, .int .i64 r1]) ∧ Kd.R (Kd.int .u8) 5 w' w.heap.size (fun _ => True) v0_ r2 ∧ Below w.heap.size w w' :=
  leb_Big.calls a0 a1 r2 r1 w h
theorem lb_U (a0 : Int) (r1 : Int) (r2 : List Int) (h : leb_U.f 20 a0 = some (r2, r1)) :
    Calls Try.prog 13 #[.int .i64 a0] w fun e w' => ∃ v0_ : Value, e = .returned (.tuple #[v0_, .int .i64 r1]) ∧ Kd.R (Kd.int .u8) 5 w' w.heap.size (fun _ => True) v0_ r2 ∧ Below w.heap.size w w' :=
  leb_U.calls 20 a0 r2 r1 w h
theorem lb_takeBig (a1 r1 r3 : Int) (r2 : List Int) (l0 : List Int) (n0 : Nat) (hr0 : Kd.C (Kd.int .u8) w A0 l0.length l0) (hn : l0.length = n0) (hc : n0 ≤ c0) (h : leb_TakeBig.f l0 a1 = some (r1, r2, r3)) :
    Calls Try.prog 26 #[.slice A0 n0 c0, .int .i64 a1] w fun e w' => ∃ v1_ : Value, e = .returned (.tuple #[.int .i64 r1, v1_, .int .i64 r3]) ∧ Kd.R (Kd.int .u8) 5 w' w.heap.size (fun _ => True) v1_ r2 ∧ Below w.heap.size w w' := by
  subst hn; exact leb_TakeBig.calls A0 c0 l0 a1 r1 r2 r3 w hr0 hc h
theorem lb_takeBigS (a1 r1 r3 : Int) (r2 : List Int) (l0 : List Int) (n0 : Nat) (hr0 : Kd.C (Kd.int .u8) w A0 l0.length l0) (hn : l0.length = n0) (hc : n0 ≤ c0) (h : leb_TakeBigS.f l0 a1 = some (r1, r2, r3)) :
    Calls Try.prog 28 #[.slice A0 n0 c0, .int .i64 a1] w fun e w' => ∃ v1_ : Value, e = .returned (.tuple #[.int .i64 r1, v1_, .int .i64 r3]) ∧ Kd.R (Kd.int .u8) 5 w' w.heap.size (fun _ => True) v1_ r2 ∧ Below w.heap.size w w' := by
  subst hn; exact leb_TakeBigS.calls A0 c0 l0 a1 r1 r2 r3 w hr0 hc h
theorem lb_eq (l0 : List Int) (n0 : Nat) (hr0 : Kd.C (Kd.int .u8) w A0 l0.length l0) (hn : l0.length = n0) (hc : n0 ≤ c0) (l1 : List Int) (n1 : Nat) (hr1 : Kd.C (Kd.int .u8) w A1 l1.length l1) (hn1 : l1.length = n1) (hc1 : n1 ≤ c1) (h : R0_EqBytes.f 20 l0 l1 = some true) :
    Calls Try.prog 20 #[.slice A0 n0 c0, .slice A1 n1 c1] w fun e w' => e = .returned (.bool true) ∧ Below w.heap.size w w' := by
  subst hn; subst hn1; exact (R0_EqBytes.calls 20 A0 c0 l0 A1 c1 l1 true w hr0 hc hr1 hc1 h).mono fun _ _ h => ⟨h.1, h.2.below⟩
theorem lb_short (a0 : Int) (l1 : List Int) (n1 : Nat) (hr1 : Kd.C (Kd.int .u8) w A1 l1.length l1) (hn1 : l1.length = n1) (hc1 : n1 ≤ c1) (h : L1_short.f 20 a0 l1 = some true) :
    Calls Try.prog 31 #[.int .i64 a0, .slice A1 n1 c1] w fun e w' => e = .returned (.bool true) ∧ Below w.heap.size w w' := by
  subst hn1; exact L1_short.calls 20 a0 A1 c1 l1 true w hr1 hc1 h
theorem lb_plain (a0 : Int) (l1 : List Int) (n1 : Nat) (hr1 : Kd.C (Kd.int .u8) w A1 l1.length l1) (hn1 : l1.length = n1) (hc1 : n1 ≤ c1) (h : L1_plain.f 20 a0 l1 = some true) :
    Calls Try.prog 32 #[.int .i64 a0, .slice A1 n1 c1] w fun e w' => e = .returned (.bool true) ∧ Below w.heap.size w w' := by
  subst hn1; exact L1_plain.calls 20 a0 A1 c1 l1 true w hr1 hc1 h
theorem lb_fails (a0 a1 : Int) (l1 : List Int) (n1 : Nat) (hr1 : Kd.C (Kd.int .u8) w A1 l1.length l1) (hn1 : l1.length = n1) (hc1 : n1 ≤ c1) (h : L1_fails.f 20 a0 a1 l1 = some true) :
    Calls Try.prog 33 #[.int .i64 a0, .int .i64 a1, .slice A1 n1 c1] w fun e w' => e = .returned (.bool true) ∧ Below w.heap.size w w' := by
  subst hn1; exact L1_fails.calls 20 a0 a1 A1 c1 l1 true w hr1 hc1 h
end

set_option maxHeartbeats 8000000 in
set_option maxRecDepth 100000 in
theorem works_calls (w : World) : Calls Try.prog 23 #[] w fun e w' => e = .returned (.bool true) ∧ Below w.heap.size w w' := by
  have HB := Aside0.mk (Below.refl w.heap.size w)
  go_enter Try.func23, Try.ntmps23
  go_wp2_with fail
  refine (lb_big (r2 := [1, 2]) (r1 := 0) (258) (2)  (by decide +kernel)).mono ?_
  rintro e w1 ⟨v, rfl, ho, hb⟩
  have n0_ := Aside0.mk (below_step HB.out hb); clear HB; have HB := n0_; clear n0_
  obtain ⟨A_a, c_a, rfl, hl_, hC_⟩ := Kd.R_reads ho
  have HL_a := Aside0.mk (show 2 ≤ c_a from hl_); have HC_a := Aside0.mk hC_; have HW_a := Aside0.mk (Below.refl w1.heap.size w1); clear hl_ hC_
  clear ho hb
  go_wp2_with fail
  refine (lb_big (r2 := [255, 254]) (r1 := 0) (-2) (2)  (by decide +kernel)).mono ?_
  rintro e w2 ⟨v, rfl, ho, hb⟩
  have n0_ := Aside0.mk (below_step HB.out hb); clear HB; have HB := n0_; clear n0_
  have n0_ := Aside0.mk (below_step HW_a.out hb); clear HW_a; have HW_a := n0_; clear n0_
  obtain ⟨A_c, c_c, rfl, hl_, hC_⟩ := Kd.R_reads ho
  have HL_c := Aside0.mk (show 2 ≤ c_c from hl_); have HC_c := Aside0.mk hC_; have HW_c := Aside0.mk (Below.refl w2.heap.size w2); clear hl_ hC_
  clear ho hb
  go_wp2_with fail
  refine (lb_big (r2 := []) (r1 := 9) (256) (1)  (by decide +kernel)).mono ?_
  rintro e w3 ⟨v, rfl, ho, hb⟩
  have n0_ := Aside0.mk (below_step HB.out hb); clear HB; have HB := n0_; clear n0_
  have n0_ := Aside0.mk (below_step HW_a.out hb); clear HW_a; have HW_a := n0_; clear n0_
  have n0_ := Aside0.mk (below_step HW_c.out hb); clear HW_c; have HW_c := n0_; clear n0_
  clear ho hb
  go_wp2_with fail
  refine (lb_takeBig 2 (65534) 0 []  [255, 254] 2 (lit_C [255, 254] 2 rfl w3 _ rfl _ (by decide)) rfl (Nat.le_refl _) (by decide +kernel)).mono ?_
  rintro e w4 ⟨v, rfl, ho, hb⟩
  have n0_ := Aside0.mk (below_step (below_alloc HB.out _) hb); clear HB; have HB := n0_; clear n0_
  have n0_ := Aside0.mk (below_step (below_alloc HW_a.out _) hb); clear HW_a; have HW_a := n0_; clear n0_
  have n0_ := Aside0.mk (below_step (below_alloc HW_c.out _) hb); clear HW_c; have HW_c := n0_; clear n0_
  clear ho hb
  go_wp2_with fail
  refine (lb_takeBigS 2 (-2) 0 []  [255, 254] 2 (lit_C [255, 254] 2 rfl w4 _ rfl _ (by decide)) rfl (Nat.le_refl _) (by decide +kernel)).mono ?_
  rintro e w5 ⟨v, rfl, ho, hb⟩
  have n0_ := Aside0.mk (below_step (below_alloc HB.out _) hb); clear HB; have HB := n0_; clear n0_
  have n0_ := Aside0.mk (below_step (below_alloc HW_a.out _) hb); clear HW_a; have HW_a := n0_; clear n0_
  have n0_ := Aside0.mk (below_step (below_alloc HW_c.out _) hb); clear HW_c; have HW_c := n0_; clear n0_
  clear ho hb
  go_wp2_with fail
  refine (lb_takeBig 2 (0) 3 []  [255] 1 (lit_C [255] 1 rfl w5 _ rfl _ (by decide)) rfl (Nat.le_refl _) (by decide +kernel)).mono ?_
  rintro e w6 ⟨v, rfl, ho, hb⟩
  have n0_ := Aside0.mk (below_step (below_alloc HB.out _) hb); clear HB; have HB := n0_; clear n0_
  have n0_ := Aside0.mk (below_step (below_alloc HW_a.out _) hb); clear HW_a; have HW_a := n0_; clear n0_
  have n0_ := Aside0.mk (below_step (below_alloc HW_c.out _) hb); clear HW_c; have HW_c := n0_; clear n0_
  clear ho hb
  go_wp2_with fail
  refine (lb_eq  [1, 2] 2 (Kd.C_alloc (Kd.C_below HC_a.out HW_a.out) _) rfl HL_a.out [1, 2] 2 (lit_C [1, 2] 2 rfl w6 _ rfl _ (by decide)) rfl (Nat.le_refl _) (by decide +kernel)).mono ?_
  rintro e w7 ⟨rfl, hb⟩
  have n0_ := Aside0.mk (below_step (below_alloc HB.out _) hb); clear HB; have HB := n0_; clear n0_
  have n0_ := Aside0.mk (below_step (below_alloc HW_a.out _) hb); clear HW_a; have HW_a := n0_; clear n0_
  have n0_ := Aside0.mk (below_step (below_alloc HW_c.out _) hb); clear HW_c; have HW_c := n0_; clear n0_
  clear hb
  go_wp2_with fail
  refine (lb_eq  [255, 254] 2 (Kd.C_alloc (Kd.C_below HC_c.out HW_c.out) _) rfl HL_c.out [255, 254] 2 (lit_C [255, 254] 2 rfl w7 _ rfl _ (by decide)) rfl (Nat.le_refl _) (by decide +kernel)).mono ?_
  rintro e w8 ⟨rfl, hb⟩
  have n0_ := Aside0.mk (below_step (below_alloc HB.out _) hb); clear HB; have HB := n0_; clear n0_
  have n0_ := Aside0.mk (below_step (below_alloc HW_a.out _) hb); clear HW_a; have HW_a := n0_; clear n0_
  have n0_ := Aside0.mk (below_step (below_alloc HW_c.out _) hb); clear HW_c; have HW_c := n0_; clear n0_
  clear hb
  go_wp2_with fail
  refine (lb_plain (0) [0] 1 (lit_C [0] 1 rfl w8 _ rfl _ (by decide)) rfl (Nat.le_refl _) (by decide +kernel)).mono ?_
  rintro e w9 ⟨rfl, hb⟩
  have n0_ := Aside0.mk (below_step (below_alloc HB.out _) hb); clear HB; have HB := n0_; clear n0_
  have n0_ := Aside0.mk (below_step (below_alloc HW_a.out _) hb); clear HW_a; have HW_a := n0_; clear n0_
  have n0_ := Aside0.mk (below_step (below_alloc HW_c.out _) hb); clear HW_c; have HW_c := n0_; clear n0_
  clear hb
  go_wp2_with fail
  refine (lb_plain (127) [127] 1 (lit_C [127] 1 rfl w9 _ rfl _ (by decide)) rfl (Nat.le_refl _) (by decide +kernel)).mono ?_
  rintro e w10 ⟨rfl, hb⟩
  have n0_ := Aside0.mk (below_step (below_alloc HB.out _) hb); clear HB; have HB := n0_; clear n0_
  have n0_ := Aside0.mk (below_step (below_alloc HW_a.out _) hb); clear HW_a; have HW_a := n0_; clear n0_
  have n0_ := Aside0.mk (below_step (below_alloc HW_c.out _) hb); clear HW_c; have HW_c := n0_; clear n0_
  clear hb
  go_wp2_with fail
  refine (lb_plain (128) [128, 1] 2 (lit_C [128, 1] 2 rfl w10 _ rfl _ (by decide)) rfl (Nat.le_refl _) (by decide +kernel)).mono ?_
  rintro e w11 ⟨rfl, hb⟩
  have n0_ := Aside0.mk (below_step (below_alloc HB.out _) hb); clear HB; have HB := n0_; clear n0_
  have n0_ := Aside0.mk (below_step (below_alloc HW_a.out _) hb); clear HW_a; have HW_a := n0_; clear n0_
  have n0_ := Aside0.mk (below_step (below_alloc HW_c.out _) hb); clear HW_c; have HW_c := n0_; clear n0_
  clear hb
  go_wp2_with fail
  refine (lb_fails (4) (4) [128, 0] 2 (lit_C [128, 0] 2 rfl w11 _ rfl _ (by decide)) rfl (Nat.le_refl _) (by decide +kernel)).mono ?_
  rintro e w12 ⟨rfl, hb⟩
  have n0_ := Aside0.mk (below_step (below_alloc HB.out _) hb); clear HB; have HB := n0_; clear n0_
  have n0_ := Aside0.mk (below_step (below_alloc HW_a.out _) hb); clear HW_a; have HW_a := n0_; clear n0_
  have n0_ := Aside0.mk (below_step (below_alloc HW_c.out _) hb); clear HW_c; have HW_c := n0_; clear n0_
  clear hb
  go_wp2_with fail
  refine (lb_fails (3) (3) [128] 1 (lit_C [128] 1 rfl w12 _ rfl _ (by decide)) rfl (Nat.le_refl _) (by decide +kernel)).mono ?_
  rintro e w13 ⟨rfl, hb⟩
  have n0_ := Aside0.mk (below_step (below_alloc HB.out _) hb); clear HB; have HB := n0_; clear n0_
  have n0_ := Aside0.mk (below_step (below_alloc HW_a.out _) hb); clear HW_a; have HW_a := n0_; clear n0_
  have n0_ := Aside0.mk (below_step (below_alloc HW_c.out _) hb); clear HW_c; have HW_c := n0_; clear n0_
  clear hb
  go_wp2_with fail
  refine (lb_short (0) [0] 1 (lit_C [0] 1 rfl w13 _ rfl _ (by decide)) rfl (Nat.le_refl _) (by decide +kernel)).mono ?_
  rintro e w14 ⟨rfl, hb⟩
  have n0_ := Aside0.mk (below_step (below_alloc HB.out _) hb); clear HB; have HB := n0_; clear n0_
  have n0_ := Aside0.mk (below_step (below_alloc HW_a.out _) hb); clear HW_a; have HW_a := n0_; clear n0_
  have n0_ := Aside0.mk (below_step (below_alloc HW_c.out _) hb); clear HW_c; have HW_c := n0_; clear n0_
  clear hb
  go_wp2_with fail
  refine (lb_short (-1) [127] 1 (lit_C [127] 1 rfl w14 _ rfl _ (by decide)) rfl (Nat.le_refl _) (by decide +kernel)).mono ?_
  rintro e w15 ⟨rfl, hb⟩
  have n0_ := Aside0.mk (below_step (below_alloc HB.out _) hb); clear HB; have HB := n0_; clear n0_
  have n0_ := Aside0.mk (below_step (below_alloc HW_a.out _) hb); clear HW_a; have HW_a := n0_; clear n0_
  have n0_ := Aside0.mk (below_step (below_alloc HW_c.out _) hb); clear HW_c; have HW_c := n0_; clear n0_
  clear hb
  go_wp2_with fail
  refine (lb_short (63) [63] 1 (lit_C [63] 1 rfl w15 _ rfl _ (by decide)) rfl (Nat.le_refl _) (by decide +kernel)).mono ?_
  rintro e w16 ⟨rfl, hb⟩
  have n0_ := Aside0.mk (below_step (below_alloc HB.out _) hb); clear HB; have HB := n0_; clear n0_
  have n0_ := Aside0.mk (below_step (below_alloc HW_a.out _) hb); clear HW_a; have HW_a := n0_; clear n0_
  have n0_ := Aside0.mk (below_step (below_alloc HW_c.out _) hb); clear HW_c; have HW_c := n0_; clear n0_
  clear hb
  go_wp2_with fail
  refine (lb_short (64) [192, 0] 2 (lit_C [192, 0] 2 rfl w16 _ rfl _ (by decide)) rfl (Nat.le_refl _) (by decide +kernel)).mono ?_
  rintro e w17 ⟨rfl, hb⟩
  have n0_ := Aside0.mk (below_step (below_alloc HB.out _) hb); clear HB; have HB := n0_; clear n0_
  have n0_ := Aside0.mk (below_step (below_alloc HW_a.out _) hb); clear HW_a; have HW_a := n0_; clear n0_
  have n0_ := Aside0.mk (below_step (below_alloc HW_c.out _) hb); clear HW_c; have HW_c := n0_; clear n0_
  clear hb
  go_wp2_with fail
  refine (lb_short (-64) [64] 1 (lit_C [64] 1 rfl w17 _ rfl _ (by decide)) rfl (Nat.le_refl _) (by decide +kernel)).mono ?_
  rintro e w18 ⟨rfl, hb⟩
  have n0_ := Aside0.mk (below_step (below_alloc HB.out _) hb); clear HB; have HB := n0_; clear n0_
  have n0_ := Aside0.mk (below_step (below_alloc HW_a.out _) hb); clear HW_a; have HW_a := n0_; clear n0_
  have n0_ := Aside0.mk (below_step (below_alloc HW_c.out _) hb); clear HW_c; have HW_c := n0_; clear n0_
  clear hb
  go_wp2_with fail
  refine (lb_short (-65) [191, 127] 2 (lit_C [191, 127] 2 rfl w18 _ rfl _ (by decide)) rfl (Nat.le_refl _) (by decide +kernel)).mono ?_
  rintro e w19 ⟨rfl, hb⟩
  have n0_ := Aside0.mk (below_step (below_alloc HB.out _) hb); clear HB; have HB := n0_; clear n0_
  have n0_ := Aside0.mk (below_step (below_alloc HW_a.out _) hb); clear HW_a; have HW_a := n0_; clear n0_
  have n0_ := Aside0.mk (below_step (below_alloc HW_c.out _) hb); clear HW_c; have HW_c := n0_; clear n0_
  clear hb
  go_wp2_with fail
  refine (lb_fails (4) (4) [255, 128, 0] 3 (lit_C [255, 128, 0] 3 rfl w19 _ rfl _ (by decide)) rfl (Nat.le_refl _) (by decide +kernel)).mono ?_
  rintro e w20 ⟨rfl, hb⟩
  have n0_ := Aside0.mk (below_step (below_alloc HB.out _) hb); clear HB; have HB := n0_; clear n0_
  have n0_ := Aside0.mk (below_step (below_alloc HW_a.out _) hb); clear HW_a; have HW_a := n0_; clear n0_
  have n0_ := Aside0.mk (below_step (below_alloc HW_c.out _) hb); clear HW_c; have HW_c := n0_; clear n0_
  clear hb
  go_wp2
  go_ret
  exact ⟨rfl, HB.out⟩
/-- 'works', in the form of the print. -/
def L1_works.f : Option (Bool) := some true
theorem L1_works.calls (r : Bool) (w : World) (h : L1_works.f = some r) :
    Calls Try.prog 23 #[] w fun e w' => e = .returned (.bool r) ∧ Below w.heap.size w w' := by
  obtain rfl := Option.some.inj h
  exact works_calls w
end Go.Proofs.Ytmfipofoeigleaa.Ext

/- LebKnown: closed; every call's answer is known. -/
import Derived.Test.YtmfipofoeigleaaPLebx1
import Derived.Test.YtmfipofoeigleaaPLebx4
import Derived.Test.YtmfipofoeigleaaPLebx6
import Derived.Test.YtmfipofoeigleaaLebWorks
set_option linter.unusedVariables false
set_option linter.unusedSimpArgs false
namespace Go.Proofs.Ytmfipofoeigleaa.Ext
open Go.RowKit Go.Proofs.YtmfipofoeigleaaW.PrintWords Go.Proofs.YtmfipofoeigleaaW.PrintLast Go.Proofs.YtmfipofoeigleaaW.PrintMore Go.Proofs.Ytmfipofoeigleaa.PLeb
attribute [local go_sem] max2_int min2_int max_two min_two max_three min_three max_four min_four

set_option maxHeartbeats 16000000 in
set_option maxRecDepth 100000 in
theorem known_walk (w : World) : Calls Try.prog 9 #[] w fun e w' => e = .returned (.bool true) ∧ Below w.heap.size w w' := by
  have HB := Aside0.mk (Below.refl w.heap.size w)
  go_enter Try.func9, Try.ntmps9
  go_wp2_with fail
  refine (lb_short (9223372036854775807) [255, 255, 255, 255, 255, 255, 255, 255, 255, 0] 10 (lit_C [255, 255, 255, 255, 255, 255, 255, 255, 255, 0] 10 rfl w _ rfl _ (by decide)) rfl (Nat.le_refl _) (by decide +kernel)).mono ?_
  rintro e w1 ⟨rfl, hb⟩
  have n0_ := Aside0.mk (below_step (below_alloc HB.out _) hb); clear HB; have HB := n0_; clear n0_
  clear hb
  go_wp2_with fail
  refine (lb_short (-9223372036854775808) [128, 128, 128, 128, 128, 128, 128, 128, 128, 127] 10 (lit_C [128, 128, 128, 128, 128, 128, 128, 128, 128, 127] 10 rfl w1 _ rfl _ (by decide)) rfl (Nat.le_refl _) (by decide +kernel)).mono ?_
  rintro e w2 ⟨rfl, hb⟩
  have n0_ := Aside0.mk (below_step (below_alloc HB.out _) hb); clear HB; have HB := n0_; clear n0_
  clear hb
  go_wp2_with fail
  refine (lb_plain (9007199254740991) [255, 255, 255, 255, 255, 255, 255, 15] 8 (lit_C [255, 255, 255, 255, 255, 255, 255, 15] 8 rfl w2 _ rfl _ (by decide)) rfl (Nat.le_refl _) (by decide +kernel)).mono ?_
  rintro e w3 ⟨rfl, hb⟩
  have n0_ := Aside0.mk (below_step (below_alloc HB.out _) hb); clear HB; have HB := n0_; clear n0_
  clear hb
  go_wp2_with fail
  refine (lb_plain (16384) [128, 128, 1] 3 (lit_C [128, 128, 1] 3 rfl w3 _ rfl _ (by decide)) rfl (Nat.le_refl _) (by decide +kernel)).mono ?_
  rintro e w4 ⟨rfl, hb⟩
  have n0_ := Aside0.mk (below_step (below_alloc HB.out _) hb); clear HB; have HB := n0_; clear n0_
  clear hb
  go_wp2_with fail
  refine (lb_short (8191) [255, 63] 2 (lit_C [255, 63] 2 rfl w4 _ rfl _ (by decide)) rfl (Nat.le_refl _) (by decide +kernel)).mono ?_
  rintro e w5 ⟨rfl, hb⟩
  have n0_ := Aside0.mk (below_step (below_alloc HB.out _) hb); clear HB; have HB := n0_; clear n0_
  clear hb
  go_wp2_with fail
  refine (lb_short (8192) [128, 192, 0] 3 (lit_C [128, 192, 0] 3 rfl w5 _ rfl _ (by decide)) rfl (Nat.le_refl _) (by decide +kernel)).mono ?_
  rintro e w6 ⟨rfl, hb⟩
  have n0_ := Aside0.mk (below_step (below_alloc HB.out _) hb); clear HB; have HB := n0_; clear n0_
  clear hb
  go_wp2_with fail
  refine (lb_short (-8192) [128, 64] 2 (lit_C [128, 64] 2 rfl w6 _ rfl _ (by decide)) rfl (Nat.le_refl _) (by decide +kernel)).mono ?_
  rintro e w7 ⟨rfl, hb⟩
  have n0_ := Aside0.mk (below_step (below_alloc HB.out _) hb); clear HB; have HB := n0_; clear n0_
  clear hb
  go_wp2_with fail
  refine (lb_fails (3) (3) [] 0 (Kd.C_nil _ _) rfl (Nat.le_refl _) (by decide +kernel)).mono ?_
  rintro e w8 ⟨rfl, hb⟩
  have n0_ := Aside0.mk (below_step HB.out hb); clear HB; have HB := n0_; clear n0_
  clear hb
  go_wp2_with fail
  refine (lb_fails (4) (3) [255, 255, 255, 255, 255, 255, 255, 255] 8 (lit_C [255, 255, 255, 255, 255, 255, 255, 255] 8 rfl w8 _ rfl _ (by decide)) rfl (Nat.le_refl _) (by decide +kernel)).mono ?_
  rintro e w9 ⟨rfl, hb⟩
  have n0_ := Aside0.mk (below_step (below_alloc HB.out _) hb); clear HB; have HB := n0_; clear n0_
  clear hb
  go_wp2_with fail
  refine (lb_fails (4) (4) [255, 255, 255, 255, 255, 255, 255, 255, 255, 1] 10 (lit_C [255, 255, 255, 255, 255, 255, 255, 255, 255, 1] 10 rfl w9 _ rfl _ (by decide)) rfl (Nat.le_refl _) (by decide +kernel)).mono ?_
  rintro e w10 ⟨rfl, hb⟩
  have n0_ := Aside0.mk (below_step (below_alloc HB.out _) hb); clear HB; have HB := n0_; clear n0_
  clear hb
  go_wp2_with fail
  refine (lb_fails (4) (4) [255, 255, 255, 255, 255, 255, 255, 255, 255, 255] 10 (lit_C [255, 255, 255, 255, 255, 255, 255, 255, 255, 255] 10 rfl w10 _ rfl _ (by decide)) rfl (Nat.le_refl _) (by decide +kernel)).mono ?_
  rintro e w11 ⟨rfl, hb⟩
  have n0_ := Aside0.mk (below_step (below_alloc HB.out _) hb); clear HB; have HB := n0_; clear n0_
  clear hb
  go_wp2_with fail
  refine (lb_fails (4) (4) [255, 255, 255, 255, 255, 255, 255, 255, 255, 127] 10 (lit_C [255, 255, 255, 255, 255, 255, 255, 255, 255, 127] 10 rfl w11 _ rfl _ (by decide)) rfl (Nat.le_refl _) (by decide +kernel)).mono ?_
  rintro e w12 ⟨rfl, hb⟩
  have n0_ := Aside0.mk (below_step (below_alloc HB.out _) hb); clear HB; have HB := n0_; clear n0_
  clear hb
  go_wp2_with fail
  refine (lb_fails (0) (4) [255, 127] 2 (lit_C [255, 127] 2 rfl w12 _ rfl _ (by decide)) rfl (Nat.le_refl _) (by decide +kernel)).mono ?_
  rintro e w13 ⟨rfl, hb⟩
  have n0_ := Aside0.mk (below_step (below_alloc HB.out _) hb); clear HB; have HB := n0_; clear n0_
  clear hb
  go_wp2_with fail
  refine (lb_fails (4) (4) [129, 0] 2 (lit_C [129, 0] 2 rfl w13 _ rfl _ (by decide)) rfl (Nat.le_refl _) (by decide +kernel)).mono ?_
  rintro e w14 ⟨rfl, hb⟩
  have n0_ := Aside0.mk (below_step (below_alloc HB.out _) hb); clear HB; have HB := n0_; clear n0_
  clear hb
  go_wp2_with fail
  refine (lb_U (r1 := 9) (r2 := []) (-1)  (by decide +kernel)).mono ?_
  rintro e w15 ⟨v, rfl, ho, hb⟩
  have n0_ := Aside0.mk (below_step HB.out hb); clear HB; have HB := n0_; clear n0_
  clear ho hb
  go_wp2_with fail
  refine (lb_U (r1 := 9) (r2 := []) (9007199254740992)  (by decide +kernel)).mono ?_
  rintro e w16 ⟨v, rfl, ho, hb⟩
  have n0_ := Aside0.mk (below_step HB.out hb); clear HB; have HB := n0_; clear n0_
  clear ho hb
  go_wp2_with fail
  refine (lb_big (r2 := [255, 255, 255, 255, 255, 255, 255, 255]) (r1 := 0) (-1) (8)  (by decide +kernel)).mono ?_
  rintro e w17 ⟨v, rfl, ho, hb⟩
  have n0_ := Aside0.mk (below_step HB.out hb); clear HB; have HB := n0_; clear n0_
  obtain ⟨A_c, c_c, rfl, hl_, hC_⟩ := Kd.R_reads ho
  have HL_c := Aside0.mk (show 8 ≤ c_c from hl_); have HC_c := Aside0.mk hC_; have HW_c := Aside0.mk (Below.refl w17.heap.size w17); clear hl_ hC_
  clear ho hb
  go_wp2_with fail
  refine (lb_big (r2 := [127, 255, 255, 255, 255, 255, 255, 255]) (r1 := 0) (9223372036854775807) (8)  (by decide +kernel)).mono ?_
  rintro e w18 ⟨v, rfl, ho, hb⟩
  have n0_ := Aside0.mk (below_step HB.out hb); clear HB; have HB := n0_; clear n0_
  have n0_ := Aside0.mk (below_step HW_c.out hb); clear HW_c; have HW_c := n0_; clear n0_
  obtain ⟨A_e, c_e, rfl, hl_, hC_⟩ := Kd.R_reads ho
  have HL_e := Aside0.mk (show 8 ≤ c_e from hl_); have HC_e := Aside0.mk hC_; have HW_e := Aside0.mk (Below.refl w18.heap.size w18); clear hl_ hC_
  clear ho hb
  go_wp2_with fail
  refine (lb_big (r2 := []) (r1 := 9) (-129) (1)  (by decide +kernel)).mono ?_
  rintro e w19 ⟨v, rfl, ho, hb⟩
  have n0_ := Aside0.mk (below_step HB.out hb); clear HB; have HB := n0_; clear n0_
  have n0_ := Aside0.mk (below_step HW_c.out hb); clear HW_c; have HW_c := n0_; clear n0_
  have n0_ := Aside0.mk (below_step HW_e.out hb); clear HW_e; have HW_e := n0_; clear n0_
  clear ho hb
  go_wp2_with fail
  refine (lb_big (r2 := [128]) (r1 := 0) (-128) (1)  (by decide +kernel)).mono ?_
  rintro e w20 ⟨v, rfl, ho, hb⟩
  have n0_ := Aside0.mk (below_step HB.out hb); clear HB; have HB := n0_; clear n0_
  have n0_ := Aside0.mk (below_step HW_c.out hb); clear HW_c; have HW_c := n0_; clear n0_
  have n0_ := Aside0.mk (below_step HW_e.out hb); clear HW_e; have HW_e := n0_; clear n0_
  obtain ⟨A_h, c_h, rfl, hl_, hC_⟩ := Kd.R_reads ho
  have HL_h := Aside0.mk (show 1 ≤ c_h from hl_); have HC_h := Aside0.mk hC_; have HW_h := Aside0.mk (Below.refl w20.heap.size w20); clear hl_ hC_
  clear ho hb
  go_wp2_with fail
  refine (lb_big (r2 := [255]) (r1 := 0) (255) (1)  (by decide +kernel)).mono ?_
  rintro e w21 ⟨v, rfl, ho, hb⟩
  have n0_ := Aside0.mk (below_step HB.out hb); clear HB; have HB := n0_; clear n0_
  have n0_ := Aside0.mk (below_step HW_c.out hb); clear HW_c; have HW_c := n0_; clear n0_
  have n0_ := Aside0.mk (below_step HW_e.out hb); clear HW_e; have HW_e := n0_; clear n0_
  have n0_ := Aside0.mk (below_step HW_h.out hb); clear HW_h; have HW_h := n0_; clear n0_
  obtain ⟨A_j, c_j, rfl, hl_, hC_⟩ := Kd.R_reads ho
  have HL_j := Aside0.mk (show 1 ≤ c_j from hl_); have HC_j := Aside0.mk hC_; have HW_j := Aside0.mk (Below.refl w21.heap.size w21); clear hl_ hC_
  clear ho hb
  go_wp2_with fail
  refine (lb_big (r2 := []) (r1 := 2) (0) (0)  (by decide +kernel)).mono ?_
  rintro e w22 ⟨v, rfl, ho, hb⟩
  have n0_ := Aside0.mk (below_step HB.out hb); clear HB; have HB := n0_; clear n0_
  have n0_ := Aside0.mk (below_step HW_c.out hb); clear HW_c; have HW_c := n0_; clear n0_
  have n0_ := Aside0.mk (below_step HW_e.out hb); clear HW_e; have HW_e := n0_; clear n0_
  have n0_ := Aside0.mk (below_step HW_h.out hb); clear HW_h; have HW_h := n0_; clear n0_
  have n0_ := Aside0.mk (below_step HW_j.out hb); clear HW_j; have HW_j := n0_; clear n0_
  clear ho hb
  go_wp2_with fail
  refine (lb_big (r2 := []) (r1 := 2) (0) (9)  (by decide +kernel)).mono ?_
  rintro e w23 ⟨v, rfl, ho, hb⟩
  have n0_ := Aside0.mk (below_step HB.out hb); clear HB; have HB := n0_; clear n0_
  have n0_ := Aside0.mk (below_step HW_c.out hb); clear HW_c; have HW_c := n0_; clear n0_
  have n0_ := Aside0.mk (below_step HW_e.out hb); clear HW_e; have HW_e := n0_; clear n0_
  have n0_ := Aside0.mk (below_step HW_h.out hb); clear HW_h; have HW_h := n0_; clear n0_
  have n0_ := Aside0.mk (below_step HW_j.out hb); clear HW_j; have HW_j := n0_; clear n0_
  clear ho hb
  go_wp2_with fail
  refine (lb_takeBigS (8) (-1) 0 []  [255, 255, 255, 255, 255, 255, 255, 255] 8 (Kd.C_below HC_c.out HW_c.out) rfl HL_c.out (by decide +kernel)).mono ?_
  rintro e w24 ⟨v, rfl, ho, hb⟩
  have n0_ := Aside0.mk (below_step HB.out hb); clear HB; have HB := n0_; clear n0_
  have n0_ := Aside0.mk (below_step HW_c.out hb); clear HW_c; have HW_c := n0_; clear n0_
  have n0_ := Aside0.mk (below_step HW_e.out hb); clear HW_e; have HW_e := n0_; clear n0_
  have n0_ := Aside0.mk (below_step HW_h.out hb); clear HW_h; have HW_h := n0_; clear n0_
  have n0_ := Aside0.mk (below_step HW_j.out hb); clear HW_j; have HW_j := n0_; clear n0_
  clear ho hb
  go_wp2_with fail
  refine (lb_takeBig (8) (0) 2 []  [255, 255, 255, 255, 255, 255, 255, 255] 8 (Kd.C_below HC_c.out HW_c.out) rfl HL_c.out (by decide +kernel)).mono ?_
  rintro e w25 ⟨v, rfl, ho, hb⟩
  have n0_ := Aside0.mk (below_step HB.out hb); clear HB; have HB := n0_; clear n0_
  have n0_ := Aside0.mk (below_step HW_c.out hb); clear HW_c; have HW_c := n0_; clear n0_
  have n0_ := Aside0.mk (below_step HW_e.out hb); clear HW_e; have HW_e := n0_; clear n0_
  have n0_ := Aside0.mk (below_step HW_h.out hb); clear HW_h; have HW_h := n0_; clear n0_
  have n0_ := Aside0.mk (below_step HW_j.out hb); clear HW_j; have HW_j := n0_; clear n0_
  clear ho hb
  go_wp2_with fail
  refine (lb_takeBig (7) (72057594037927935) 0 [255]  [255, 255, 255, 255, 255, 255, 255, 255] 8 (Kd.C_below HC_c.out HW_c.out) rfl HL_c.out (by decide +kernel)).mono ?_
  rintro e w26 ⟨v, rfl, ho, hb⟩
  have n0_ := Aside0.mk (below_step HB.out hb); clear HB; have HB := n0_; clear n0_
  have n0_ := Aside0.mk (below_step HW_c.out hb); clear HW_c; have HW_c := n0_; clear n0_
  have n0_ := Aside0.mk (below_step HW_e.out hb); clear HW_e; have HW_e := n0_; clear n0_
  have n0_ := Aside0.mk (below_step HW_h.out hb); clear HW_h; have HW_h := n0_; clear n0_
  have n0_ := Aside0.mk (below_step HW_j.out hb); clear HW_j; have HW_j := n0_; clear n0_
  clear ho hb
  go_wp2_with fail
  refine (lb_takeBigS (0) (0) 2 []  [] 0 (Kd.C_nil _ _) rfl (Nat.le_refl _) (by decide +kernel)).mono ?_
  rintro e w27 ⟨v, rfl, ho, hb⟩
  have n0_ := Aside0.mk (below_step HB.out hb); clear HB; have HB := n0_; clear n0_
  have n0_ := Aside0.mk (below_step HW_c.out hb); clear HW_c; have HW_c := n0_; clear n0_
  have n0_ := Aside0.mk (below_step HW_e.out hb); clear HW_e; have HW_e := n0_; clear n0_
  have n0_ := Aside0.mk (below_step HW_h.out hb); clear HW_h; have HW_h := n0_; clear n0_
  have n0_ := Aside0.mk (below_step HW_j.out hb); clear HW_j; have HW_j := n0_; clear n0_
  clear ho hb
  go_wp2_with fail
  refine (lb_takeBigS (9) (0) 2 []  [] 0 (Kd.C_nil _ _) rfl (Nat.le_refl _) (by decide +kernel)).mono ?_
  rintro e w28 ⟨v, rfl, ho, hb⟩
  have n0_ := Aside0.mk (below_step HB.out hb); clear HB; have HB := n0_; clear n0_
  have n0_ := Aside0.mk (below_step HW_c.out hb); clear HW_c; have HW_c := n0_; clear n0_
  have n0_ := Aside0.mk (below_step HW_e.out hb); clear HW_e; have HW_e := n0_; clear n0_
  have n0_ := Aside0.mk (below_step HW_h.out hb); clear HW_h; have HW_h := n0_; clear n0_
  have n0_ := Aside0.mk (below_step HW_j.out hb); clear HW_j; have HW_j := n0_; clear n0_
  clear ho hb
  go_wp2_with fail
  refine (lb_takeBig (0) (0) 2 []  [] 0 (Kd.C_nil _ _) rfl (Nat.le_refl _) (by decide +kernel)).mono ?_
  rintro e w29 ⟨v, rfl, ho, hb⟩
  have n0_ := Aside0.mk (below_step HB.out hb); clear HB; have HB := n0_; clear n0_
  have n0_ := Aside0.mk (below_step HW_c.out hb); clear HW_c; have HW_c := n0_; clear n0_
  have n0_ := Aside0.mk (below_step HW_e.out hb); clear HW_e; have HW_e := n0_; clear n0_
  have n0_ := Aside0.mk (below_step HW_h.out hb); clear HW_h; have HW_h := n0_; clear n0_
  have n0_ := Aside0.mk (below_step HW_j.out hb); clear HW_j; have HW_j := n0_; clear n0_
  clear ho hb
  obtain ⟨ade, ee_, hxe_0⟩ := Kd.at_int (Kd.C_below HC_e.out HW_e.out) 0 (by omega) (by decide)
  cases ee_
  (try simp only [show (0 : Int).toNat = 0 from rfl, Nat.reduceMul, Nat.reduceEqDiff, Go.Addr.add, ↓reduceIte] at hxe_0)
  simp only [rd, List.getD_cons_zero, show (0 : Int).toNat = 0 from rfl] at hxe_0
  go_wp2_with fail
  refine (lb_eq  [128] 1 (Kd.C_alloc (Kd.C_below HC_h.out HW_h.out) _) rfl HL_h.out [128] 1 (lit_C [128] 1 rfl w29 _ rfl _ (by decide)) rfl (Nat.le_refl _) (by decide +kernel)).mono ?_
  rintro e w30 ⟨rfl, hb⟩
  have n0_ := Aside0.mk (below_step (below_alloc HB.out _) hb); clear HB; have HB := n0_; clear n0_
  have n0_ := Aside0.mk (below_step (below_alloc HW_c.out _) hb); clear HW_c; have HW_c := n0_; clear n0_
  have n0_ := Aside0.mk (below_step (below_alloc HW_e.out _) hb); clear HW_e; have HW_e := n0_; clear n0_
  have n0_ := Aside0.mk (below_step (below_alloc HW_h.out _) hb); clear HW_h; have HW_h := n0_; clear n0_
  have n0_ := Aside0.mk (below_step (below_alloc HW_j.out _) hb); clear HW_j; have HW_j := n0_; clear n0_
  clear hb
  go_wp2_with fail
  refine (lb_eq  [255] 1 (Kd.C_alloc (Kd.C_below HC_j.out HW_j.out) _) rfl HL_j.out [255] 1 (lit_C [255] 1 rfl w30 _ rfl _ (by decide)) rfl (Nat.le_refl _) (by decide +kernel)).mono ?_
  rintro e w31 ⟨rfl, hb⟩
  have n0_ := Aside0.mk (below_step (below_alloc HB.out _) hb); clear HB; have HB := n0_; clear n0_
  have n0_ := Aside0.mk (below_step (below_alloc HW_c.out _) hb); clear HW_c; have HW_c := n0_; clear n0_
  have n0_ := Aside0.mk (below_step (below_alloc HW_e.out _) hb); clear HW_e; have HW_e := n0_; clear n0_
  have n0_ := Aside0.mk (below_step (below_alloc HW_h.out _) hb); clear HW_h; have HW_h := n0_; clear n0_
  have n0_ := Aside0.mk (below_step (below_alloc HW_j.out _) hb); clear HW_j; have HW_j := n0_; clear n0_
  clear hb
  go_wp2_with fail
  refine (works_calls _).mono ?_
  rintro e w32 ⟨rfl, hb⟩
  have n0_ := Aside0.mk (below_step HB.out hb); clear HB; have HB := n0_; clear n0_
  go_wp2
  go_ret
  exact ⟨rfl, HB.out⟩
end Go.Proofs.Ytmfipofoeigleaa.Ext

/- TextKnown: closed; every call's answer is known. -/
import Derived.Test.YthjbkgpjcfdnoaaDoorTextWorks
set_option linter.unusedVariables false
set_option linter.unusedSimpArgs false
namespace Go.Proofs.YthjbkgpjcfdnoaaDoor.Ext
open Go.RowKit Go.Lib Go.Proofs.YthjbkgpjcfdnoaaDoorW.PrintWords Go.Proofs.YthjbkgpjcfdnoaaDoorW.PrintLast Go.Proofs.YthjbkgpjcfdnoaaDoorW.PrintMore Go.Proofs.YthjbkgpjcfdnoaaDoor.PTxt
attribute [local go_sem] max2_int min2_int max_two min_two max_three min_three max_four min_four

set_option maxHeartbeats 16000000 in
set_option maxRecDepth 100000 in
theorem textKnown_walk (w : World) (hT : Tabs w) : Calls Tryd.prog 8 #[] w fun e w' => e = .returned (.bool true) ∧ Below w.heap.size w w' := by
  have HB := Aside0.mk (Below.refl w.heap.size w)
  have HT := Aside0.mk hT
  clear hT
  go_enter Tryd.func8, Tryd.ntmps8
  go_wp2_with fail
  refine (wk_is [] [] 0 ⟨#[]⟩ (HT.out.below HB.out) (Kd.C_nil _ _) rfl (Nat.le_refl _) (by decide +kernel)).mono ?_
  rintro e w1 ⟨rfl, hb⟩
  have n0_ := Aside0.mk (below_step HB.out hb); clear HB hb; have HB := n0_; clear n0_
  go_wp2_with fail
  refine (wk_is [1] [1] 1 ⟨#[1]⟩ (HT.out.below (below_alloc HB.out _)) (lit_C [1] 1 rfl w1 _ rfl _ (by decide)) rfl (Nat.le_refl _) (by decide +kernel)).mono ?_
  rintro e w2 ⟨rfl, hb⟩
  have n0_ := Aside0.mk (below_step (below_alloc HB.out _) hb); clear HB hb; have HB := n0_; clear n0_
  go_wp2_with fail
  refine (wk_is [127] [127] 1 ⟨#[127]⟩ (HT.out.below (below_alloc HB.out _)) (lit_C [127] 1 rfl w2 _ rfl _ (by decide)) rfl (Nat.le_refl _) (by decide +kernel)).mono ?_
  rintro e w3 ⟨rfl, hb⟩
  have n0_ := Aside0.mk (below_step (below_alloc HB.out _) hb); clear HB hb; have HB := n0_; clear n0_
  go_wp2_with fail
  refine (wk_is [128] [194, 128] 2 ⟨#[194, 128]⟩ (HT.out.below (below_alloc HB.out _)) (lit_C [194, 128] 2 rfl w3 _ rfl _ (by decide)) rfl (Nat.le_refl _) (by decide +kernel)).mono ?_
  rintro e w4 ⟨rfl, hb⟩
  have n0_ := Aside0.mk (below_step (below_alloc HB.out _) hb); clear HB hb; have HB := n0_; clear n0_
  go_wp2_with fail
  refine (wk_is [55295] [237, 159, 191] 3 ⟨#[237, 159, 191]⟩ (HT.out.below (below_alloc HB.out _)) (lit_C [237, 159, 191] 3 rfl w4 _ rfl _ (by decide)) rfl (Nat.le_refl _) (by decide +kernel)).mono ?_
  rintro e w5 ⟨rfl, hb⟩
  have n0_ := Aside0.mk (below_step (below_alloc HB.out _) hb); clear HB hb; have HB := n0_; clear n0_
  go_wp2_with fail
  refine (wk_is [57344] [238, 128, 128] 3 ⟨#[238, 128, 128]⟩ (HT.out.below (below_alloc HB.out _)) (lit_C [238, 128, 128] 3 rfl w5 _ rfl _ (by decide)) rfl (Nat.le_refl _) (by decide +kernel)).mono ?_
  rintro e w6 ⟨rfl, hb⟩
  have n0_ := Aside0.mk (below_step (below_alloc HB.out _) hb); clear HB hb; have HB := n0_; clear n0_
  go_wp2_with fail
  refine (wk_is [97, 0, 98] [97, 192, 128, 98] 4 ⟨#[97, 0, 98]⟩ (HT.out.below (below_alloc HB.out _)) (lit_C [97, 192, 128, 98] 4 rfl w6 _ rfl _ (by decide)) rfl (Nat.le_refl _) (by decide +kernel)).mono ?_
  rintro e w7 ⟨rfl, hb⟩
  have n0_ := Aside0.mk (below_step (below_alloc HB.out _) hb); clear HB hb; have HB := n0_; clear n0_
  go_wp2_with fail
  refine (wk_is [128512] [237, 160, 189, 237, 184, 128] 6 ⟨#[240, 159, 152, 128]⟩ (HT.out.below (below_alloc HB.out _)) (lit_C [237, 160, 189, 237, 184, 128] 6 rfl w7 _ rfl _ (by decide)) rfl (Nat.le_refl _) (by decide +kernel)).mono ?_
  rintro e w8 ⟨rfl, hb⟩
  have n0_ := Aside0.mk (below_step (below_alloc HB.out _) hb); clear HB hb; have HB := n0_; clear n0_
  go_wp2_with fail
  refine (wk_fails 0 [0] 1 (lit_C [0] 1 rfl w8 _ rfl _ (by decide)) rfl (Nat.le_refl _) (by decide +kernel)).mono ?_
  rintro e w9 ⟨rfl, hb⟩
  have n0_ := Aside0.mk (below_step (below_alloc HB.out _) hb); clear HB hb; have HB := n0_; clear n0_
  go_wp2_with fail
  refine (wk_fails 0 [128] 1 (lit_C [128] 1 rfl w9 _ rfl _ (by decide)) rfl (Nat.le_refl _) (by decide +kernel)).mono ?_
  rintro e w10 ⟨rfl, hb⟩
  have n0_ := Aside0.mk (below_step (below_alloc HB.out _) hb); clear HB hb; have HB := n0_; clear n0_
  go_wp2_with fail
  refine (wk_fails 0 [192] 1 (lit_C [192] 1 rfl w10 _ rfl _ (by decide)) rfl (Nat.le_refl _) (by decide +kernel)).mono ?_
  rintro e w11 ⟨rfl, hb⟩
  have n0_ := Aside0.mk (below_step (below_alloc HB.out _) hb); clear HB hb; have HB := n0_; clear n0_
  go_wp2_with fail
  refine (wk_fails 0 [193, 191] 2 (lit_C [193, 191] 2 rfl w11 _ rfl _ (by decide)) rfl (Nat.le_refl _) (by decide +kernel)).mono ?_
  rintro e w12 ⟨rfl, hb⟩
  have n0_ := Aside0.mk (below_step (below_alloc HB.out _) hb); clear HB hb; have HB := n0_; clear n0_
  go_wp2_with fail
  refine (wk_fails 0 [224, 159, 191] 3 (lit_C [224, 159, 191] 3 rfl w12 _ rfl _ (by decide)) rfl (Nat.le_refl _) (by decide +kernel)).mono ?_
  rintro e w13 ⟨rfl, hb⟩
  have n0_ := Aside0.mk (below_step (below_alloc HB.out _) hb); clear HB hb; have HB := n0_; clear n0_
  go_wp2_with fail
  refine (wk_fails 0 [237, 176, 128] 3 (lit_C [237, 176, 128] 3 rfl w13 _ rfl _ (by decide)) rfl (Nat.le_refl _) (by decide +kernel)).mono ?_
  rintro e w14 ⟨rfl, hb⟩
  have n0_ := Aside0.mk (below_step (below_alloc HB.out _) hb); clear HB hb; have HB := n0_; clear n0_
  go_wp2_with fail
  refine (wk_fails 0 [237, 176, 128, 237, 160, 128] 6 (lit_C [237, 176, 128, 237, 160, 128] 6 rfl w14 _ rfl _ (by decide)) rfl (Nat.le_refl _) (by decide +kernel)).mono ?_
  rintro e w15 ⟨rfl, hb⟩
  have n0_ := Aside0.mk (below_step (below_alloc HB.out _) hb); clear HB hb; have HB := n0_; clear n0_
  go_wp2_with fail
  refine (wk_fails 0 [237, 160, 128, 237, 160, 128] 6 (lit_C [237, 160, 128, 237, 160, 128] 6 rfl w15 _ rfl _ (by decide)) rfl (Nat.le_refl _) (by decide +kernel)).mono ?_
  rintro e w16 ⟨rfl, hb⟩
  have n0_ := Aside0.mk (below_step (below_alloc HB.out _) hb); clear HB hb; have HB := n0_; clear n0_
  go_wp2_with fail
  refine (wk_fails 0 [237, 160, 128, 97] 4 (lit_C [237, 160, 128, 97] 4 rfl w16 _ rfl _ (by decide)) rfl (Nat.le_refl _) (by decide +kernel)).mono ?_
  rintro e w17 ⟨rfl, hb⟩
  have n0_ := Aside0.mk (below_step (below_alloc HB.out _) hb); clear HB hb; have HB := n0_; clear n0_
  go_wp2_with fail
  refine (wk_fails 0 [237, 160, 128, 237, 176] 5 (lit_C [237, 160, 128, 237, 176] 5 rfl w17 _ rfl _ (by decide)) rfl (Nat.le_refl _) (by decide +kernel)).mono ?_
  rintro e w18 ⟨rfl, hb⟩
  have n0_ := Aside0.mk (below_step (below_alloc HB.out _) hb); clear HB hb; have HB := n0_; clear n0_
  go_wp2_with fail
  refine (wk_fails 0 [255] 1 (lit_C [255] 1 rfl w18 _ rfl _ (by decide)) rfl (Nat.le_refl _) (by decide +kernel)).mono ?_
  rintro e w19 ⟨rfl, hb⟩
  have n0_ := Aside0.mk (below_step (below_alloc HB.out _) hb); clear HB hb; have HB := n0_; clear n0_
  go_wp2_with fail
  refine (wk_fails 2 [97, 98, 195] 3 (lit_C [97, 98, 195] 3 rfl w19 _ rfl _ (by decide)) rfl (Nat.le_refl _) (by decide +kernel)).mono ?_
  rintro e w20 ⟨rfl, hb⟩
  have n0_ := Aside0.mk (below_step (below_alloc HB.out _) hb); clear HB hb; have HB := n0_; clear n0_
  go_wp2_with fail
  refine (wk_fails 0 [195, 40] 2 (lit_C [195, 40] 2 rfl w20 _ rfl _ (by decide)) rfl (Nat.le_refl _) (by decide +kernel)).mono ?_
  rintro e w21 ⟨rfl, hb⟩
  have n0_ := Aside0.mk (below_step (below_alloc HB.out _) hb); clear HB hb; have HB := n0_; clear n0_
  go_wp2_with fail
  refine (encode_bad ⟨#[255]⟩ _ (by decide) (HT.out.below HB.out) (by decide +kernel)).mono ?_
  rintro e w22 ⟨rfl, hb⟩
  have n0_ := Aside0.mk (below_step HB.out hb); clear HB hb; have HB := n0_; clear n0_
  go_wp2_with fail
  refine (encode_bad ⟨#[97, 237, 160, 128]⟩ _ (by decide) (HT.out.below HB.out) (by decide +kernel)).mono ?_
  rintro e w23 ⟨rfl, hb⟩
  have n0_ := Aside0.mk (below_step HB.out hb); clear HB hb; have HB := n0_; clear n0_
  go_wp2_with fail
  refine (len_bad ⟨#[192, 128]⟩ _ (by decide) (HT.out.below HB.out) (by decide +kernel)).mono ?_
  rintro e w24 ⟨rfl, hb⟩
  have n0_ := Aside0.mk (below_step HB.out hb); clear HB hb; have HB := n0_; clear n0_
  go_wp2_with fail
  refine (works_calls _ (HT.out.below HB.out)).mono ?_
  rintro e w25 ⟨rfl, hb⟩
  have n0_ := Aside0.mk (below_step HB.out hb); clear HB hb; have HB := n0_; clear n0_
  go_wp2
  go_ret
  exact ⟨rfl, HB.out⟩
end Go.Proofs.YthjbkgpjcfdnoaaDoor.Ext

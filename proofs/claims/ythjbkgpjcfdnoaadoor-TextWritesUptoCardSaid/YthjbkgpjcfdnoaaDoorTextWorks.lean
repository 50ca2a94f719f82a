/- The statements' own examples of package text ('works') come through: it returns true. -/
import Derived.Test.YthjbkgpjcfdnoaaDoorTextIs
set_option linter.unusedVariables false
set_option linter.unusedSimpArgs false
namespace Go.Proofs.YthjbkgpjcfdnoaaDoor.Ext
open Go.RowKit Go.Lib Go.Proofs.YthjbkgpjcfdnoaaDoorW.PrintWords Go.Proofs.YthjbkgpjcfdnoaaDoorW.PrintLast Go.Proofs.YthjbkgpjcfdnoaaDoorW.PrintMore Go.Proofs.YthjbkgpjcfdnoaaDoor.PTxt
attribute [local go_sem] max2_int min2_int max_two min_two max_three min_three max_four min_four

theorem lit_C (l : List Int) (n : Nat) (hn : l.length = n) (W : World) (C : Array Value) (hC : C.toList = nums .u8 l) (fr : Nat × Nat) (hm : l.length ≤ 9223372036854775807) : Kd.C (Kd.int .u8) (W.alloc (.cells C 5 fr)) (some ⟨W.heap.size, 0, none⟩) l.length l := by
  refine Kd.C_of_reads (d := (0 : Int)) (h1 := fun _ => rfl) ⟨rfl, hm, fun _ => ⟨_, rfl, fun j hj => ?_⟩⟩
  rw [add_plain, cell_of_row _ W.heap.size j C 5 fr (heap_alloc_new W _), ← Array.getElem?_toList, hC]
  simp [nums, List.getElem?_eq_getElem hj, List.getD_eq_getElem?_getD]
def vrB (c : Int) : Bool := decide ((0 ≤ c ∧ c < 55296) ∨ (57344 ≤ c ∧ c ≤ 1114111))
theorem vr_all {cs : List Int} (h : cs.all vrB = true) : ∀ c ∈ cs, VR c := fun c hc => show (0 ≤ c ∧ c < 55296) ∨ (57344 ≤ c ∧ c ≤ 1114111) from of_decide_eq_true (List.all_eq_true.1 h c hc)
def byB (c : Int) : Bool := decide (0 ≤ c ∧ c ≤ 255)
theorem by_all {l : List Int} (h : l.all byB = true) : Bytes l := fun c hc => show 0 ≤ c ∧ c ≤ 255 from of_decide_eq_true (List.all_eq_true.1 h c hc)
section
variable {w : World} {A : Option Addr} {c : Nat}
theorem wk_is (cs : List Int) (l : List Int) (n : Nat) (s : ByteArray) (hT : Tabs w) (hr : Kd.C (Kd.int .u8) w A l.length l) (hn : l.length = n) (hc : n ≤ c) (h : (cs.all vrB && decide (s.data.toList = us cs) && decide (cs.length ≤ 1048576) && decide (muts cs = l)) = true) :
    Calls Tryd.prog 18 #[.string s, .slice A n c] w fun e w' => e = .returned (.bool true) ∧ Below w.heap.size w w' := by
  simp only [Bool.and_eq_true, decide_eq_true_eq] at h
  exact is_calls cs s l A c n w (vr_all h.1.1.1) h.1.1.2 h.1.2 hT h.2 hr hn hc
theorem wk_fails (want : Int) (l : List Int) (n : Nat) (hr : Kd.C (Kd.int .u8) w A l.length l) (hn : l.length = n) (hc : n ≤ c) (h : (failsB want l && l.all byB && decide (n ≤ 1048576)) = true) :
    Calls Tryd.prog 19 #[.int .i64 want, .slice A n c] w fun e w' => e = .returned (.bool true) ∧ Below w.heap.size w w' := by
  simp only [Bool.and_eq_true, decide_eq_true_eq] at h
  exact fails_calls want l A c n w h.1.1 (by_all h.1.2) hr hn hc h.2
end
set_option maxHeartbeats 8000000 in
set_option maxRecDepth 100000 in
theorem works_calls (w : World) (hT : Tabs w) : Calls Tryd.prog 11 #[] w fun e w' => e = .returned (.bool true) ∧ Below w.heap.size w w' := by
  have HB := Aside0.mk (Below.refl w.heap.size w)
  have HT := Aside0.mk hT
  clear hT
  go_enter Tryd.func11, Tryd.ntmps11
  go_wp2_with fail
  refine (wk_is [65] [65] 1 ⟨#[65]⟩ (HT.out.below (below_alloc HB.out _)) (lit_C [65] 1 rfl w _ rfl _ (by decide)) rfl (Nat.le_refl _) (by decide +kernel)).mono ?_
  rintro e w1 ⟨rfl, hb⟩
  have n0_ := Aside0.mk (below_step (below_alloc HB.out _) hb); clear HB hb; have HB := n0_; clear n0_
  go_wp2_with fail
  refine (wk_is [0] [192, 128] 2 ⟨#[0]⟩ (HT.out.below (below_alloc HB.out _)) (lit_C [192, 128] 2 rfl w1 _ rfl _ (by decide)) rfl (Nat.le_refl _) (by decide +kernel)).mono ?_
  rintro e w2 ⟨rfl, hb⟩
  have n0_ := Aside0.mk (below_step (below_alloc HB.out _) hb); clear HB hb; have HB := n0_; clear n0_
  go_wp2_with fail
  refine (wk_is [2047] [223, 191] 2 ⟨#[223, 191]⟩ (HT.out.below (below_alloc HB.out _)) (lit_C [223, 191] 2 rfl w2 _ rfl _ (by decide)) rfl (Nat.le_refl _) (by decide +kernel)).mono ?_
  rintro e w3 ⟨rfl, hb⟩
  have n0_ := Aside0.mk (below_step (below_alloc HB.out _) hb); clear HB hb; have HB := n0_; clear n0_
  go_wp2_with fail
  refine (wk_is [2048] [224, 160, 128] 3 ⟨#[224, 160, 128]⟩ (HT.out.below (below_alloc HB.out _)) (lit_C [224, 160, 128] 3 rfl w3 _ rfl _ (by decide)) rfl (Nat.le_refl _) (by decide +kernel)).mono ?_
  rintro e w4 ⟨rfl, hb⟩
  have n0_ := Aside0.mk (below_step (below_alloc HB.out _) hb); clear HB hb; have HB := n0_; clear n0_
  go_wp2_with fail
  refine (wk_is [65535] [239, 191, 191] 3 ⟨#[239, 191, 191]⟩ (HT.out.below (below_alloc HB.out _)) (lit_C [239, 191, 191] 3 rfl w4 _ rfl _ (by decide)) rfl (Nat.le_refl _) (by decide +kernel)).mono ?_
  rintro e w5 ⟨rfl, hb⟩
  have n0_ := Aside0.mk (below_step (below_alloc HB.out _) hb); clear HB hb; have HB := n0_; clear n0_
  go_wp2_with fail
  refine (wk_is [65536] [237, 160, 128, 237, 176, 128] 6 ⟨#[240, 144, 128, 128]⟩ (HT.out.below (below_alloc HB.out _)) (lit_C [237, 160, 128, 237, 176, 128] 6 rfl w5 _ rfl _ (by decide)) rfl (Nat.le_refl _) (by decide +kernel)).mono ?_
  rintro e w6 ⟨rfl, hb⟩
  have n0_ := Aside0.mk (below_step (below_alloc HB.out _) hb); clear HB hb; have HB := n0_; clear n0_
  go_wp2_with fail
  refine (wk_is [1114111] [237, 175, 191, 237, 191, 191] 6 ⟨#[244, 143, 191, 191]⟩ (HT.out.below (below_alloc HB.out _)) (lit_C [237, 175, 191, 237, 191, 191] 6 rfl w6 _ rfl _ (by decide)) rfl (Nat.le_refl _) (by decide +kernel)).mono ?_
  rintro e w7 ⟨rfl, hb⟩
  have n0_ := Aside0.mk (below_step (below_alloc HB.out _) hb); clear HB hb; have HB := n0_; clear n0_
  go_wp2_with fail
  refine (wk_fails 1 [65, 0] 2 (lit_C [65, 0] 2 rfl w7 _ rfl _ (by decide)) rfl (Nat.le_refl _) (by decide +kernel)).mono ?_
  rintro e w8 ⟨rfl, hb⟩
  have n0_ := Aside0.mk (below_step (below_alloc HB.out _) hb); clear HB hb; have HB := n0_; clear n0_
  go_wp2_with fail
  refine (wk_fails 1 [65, 192, 129] 3 (lit_C [65, 192, 129] 3 rfl w8 _ rfl _ (by decide)) rfl (Nat.le_refl _) (by decide +kernel)).mono ?_
  rintro e w9 ⟨rfl, hb⟩
  have n0_ := Aside0.mk (below_step (below_alloc HB.out _) hb); clear HB hb; have HB := n0_; clear n0_
  go_wp2_with fail
  refine (wk_fails 0 [237, 160, 128] 3 (lit_C [237, 160, 128] 3 rfl w9 _ rfl _ (by decide)) rfl (Nat.le_refl _) (by decide +kernel)).mono ?_
  rintro e w10 ⟨rfl, hb⟩
  have n0_ := Aside0.mk (below_step (below_alloc HB.out _) hb); clear HB hb; have HB := n0_; clear n0_
  go_wp2_with fail
  refine (wk_fails 0 [224, 128, 128] 3 (lit_C [224, 128, 128] 3 rfl w10 _ rfl _ (by decide)) rfl (Nat.le_refl _) (by decide +kernel)).mono ?_
  rintro e w11 ⟨rfl, hb⟩
  have n0_ := Aside0.mk (below_step (below_alloc HB.out _) hb); clear HB hb; have HB := n0_; clear n0_
  go_wp2_with fail
  refine (wk_fails 1 [65, 224, 160] 3 (lit_C [65, 224, 160] 3 rfl w11 _ rfl _ (by decide)) rfl (Nat.le_refl _) (by decide +kernel)).mono ?_
  rintro e w12 ⟨rfl, hb⟩
  have n0_ := Aside0.mk (below_step (below_alloc HB.out _) hb); clear HB hb; have HB := n0_; clear n0_
  go_wp2_with fail
  refine (wk_fails 0 [240, 144, 128, 128] 4 (lit_C [240, 144, 128, 128] 4 rfl w12 _ rfl _ (by decide)) rfl (Nat.le_refl _) (by decide +kernel)).mono ?_
  rintro e w13 ⟨rfl, hb⟩
  have n0_ := Aside0.mk (below_step (below_alloc HB.out _) hb); clear HB hb; have HB := n0_; clear n0_
  go_wp2
  go_ret
  exact ⟨rfl, HB.out⟩
end Go.Proofs.YthjbkgpjcfdnoaaDoor.Ext

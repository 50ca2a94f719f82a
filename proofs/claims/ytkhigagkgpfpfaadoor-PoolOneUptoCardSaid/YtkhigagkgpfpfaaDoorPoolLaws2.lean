/- The law PoolOne, walked. -/
import Derived.Test.YtkhigagkgpfpfaaDoorPoolLaws3
set_option linter.unusedVariables false
set_option linter.unusedSimpArgs false
namespace Go.Proofs.YtkhigagkgpfpfaaDoor.Ext
open Go.RowKit Go.Lib Go.Proofs.YtkhigagkgpfpfaaDoorW.PrintWords Go.Proofs.YtkhigagkgpfpfaaDoorW.PrintLast Go.Proofs.YtkhigagkgpfpfaaDoorW.PrintMore Go.Proofs.YtkhigagkgpfpfaaDoor.PLeb
attribute [local go_sem] max2_int min2_int max_two min_two max_three min_three max_four min_four

theorem isB_in {l : List S35} {i k : Int} {x : S35} (h0 : 0 < i) (h1 : i < l.length) (hx : rd_T35 l i = x) : isB l i k = (x.f0 == k) := by
  unfold isB; rw [decide_eq_true h0, decide_eq_true h1, hx]; rfl
theorem isB_zero (l : List S35) (k : Int) : isB l 0 k = false := by unfold isB; rw [decide_eq_false (by omega)]; rfl
theorem rd_mem {l : List S35} {j : Int} (h0 : 0 < j) (h1 : j < l.length) : rd_T35 l j ∈ l.drop 1 := by
  have hj : j.toNat < l.length := by omega
  have e : rd_T35 l j = l[j.toNat] := by unfold rd_T35; rw [List.getD_eq_getElem?_getD, List.getElem?_eq_getElem hj]; rfl
  rw [e]
  refine List.mem_of_getElem? (i := j.toNat - 1) ?_
  rw [List.getElem?_drop, show 1 + (j.toNat - 1) = j.toNat by omega, List.getElem?_eq_getElem hj]
theorem text_ok {l : List S35} {j : Int} (h : isB l j 1 = true) : textP l j = ((rd_T35 l j).f1, 0) := by unfold textP; rw [if_pos h]
theorem fits_4b {l : List S35} {t : ByteArray} {n a b d : Int} (h : fitsB l ⟨4, t, n, a, b, d⟩ = true) : isB l a 1 = true := by
  unfold fitsB at h
  rw [if_neg (show ¬ (4 : Int) = 1 by decide), if_neg (show ¬ (4 : Int) = 2 by decide), if_neg (show ¬ (4 : Int) = 3 by decide), if_pos (show (4 : Int) = 4 from rfl)] at h
  exact (Bool.and_eq_true_iff.1 h).1
theorem fits_5b {l : List S35} {k : Int} (hk : k = 5 ∨ k = 6) {t : ByteArray} {n a b d : Int} (h : fitsB l ⟨k, t, n, a, b, d⟩ = true) : isB l a 4 = true ∧ isB l b 1 = true ∧ isB l d 1 = true := by
  unfold fitsB at h
  rw [if_neg (show ¬ k = 1 by omega), if_neg (show ¬ k = 2 by omega), if_neg (show ¬ k = 3 by omega), if_neg (show ¬ k = 4 by omega), if_pos (show k = 5 ∨ k = 6 from hk)] at h
  simp only [Bool.and_eq_true] at h
  exact ⟨h.1.1, h.1.2.1, h.1.2.2⟩
theorem class_ok {l : List S35} {j : Int} (hf : ∀ c ∈ l.drop 1, fitsB l c = true) (h : isB l j 4 = true) : ∃ t, classP l j = (t, 0) := by
  have hp := isB_pos h
  have hm := hf _ (rd_mem hp.1 hp.2.1)
  obtain ⟨⟨k, t, n, a, b, d⟩, hx⟩ : ∃ x, rd_T35 l j = x := ⟨_, rfl⟩
  rw [hx] at hm hp
  have hk : k = 4 := hp.2.2
  subst hk
  unfold classP
  rw [if_pos h, hx]
  exact ⟨_, text_ok (fits_4b hm)⟩
theorem min_one {i : Int} (h : 0 < i) : (if (1 : Int) < i then (1 : Int) else i) = 1 := by split <;> omega
set_option maxHeartbeats 16000000 in
set_option maxRecDepth 100000 in
theorem poolOne_zero (a0 : Option Addr) (len0 cap0 : Nat) (l0 : List S35) (at_ : Int)  (w : World) (hr0 : Kd.C k35 w a0 l0.length l0) (hn0 : l0.length = len0) (hc0 : len0 ≤ cap0) (hm0 : len0 ≤ 1048576) (hS : Tiny l0) (wa : (Lit.int .i64 at_).wf = true) (hT : Tabs w) (hRd : Rds w)
    (hk : checkL l0 = 0) (hi : at_ % (l0.length : Int) = 0) (hx : rd_T35 l0 0 = ⟨0, E0, 0, 0, 0, 0⟩) 
    (e1 : textP l0 0 = (E0, 40)) (e2 : numP l0 0 0 = (0, 40)) (e3 : classP l0 0 = (E0, 40)) (e4 : refP l0 0 0 = (E0, E0, E0, 40)) :
    Calls Tryd.prog 9 #[.slice a0 len0 cap0, .int .i64 at_] w fun e w' => e = .returned (.bool true) ∧ Below w.heap.size w w' := by
  subst hn0
  have HT := Aside0.mk hT
  have HRD := Aside0.mk hRd
  have HR := Aside0.mk hr0
  have HC := Aside0.mk hc0
  have HM := Aside0.mk hm0
  have HS := Aside0.mk hS
  have HA := Aside0.mk (bounds_i64 wa)
  have HK := Aside0.mk hk
  have HII := Aside0.mk hi
  have HX := Aside0.mk hx
  have HL := Aside0.mk (checkL_ok hk).1
  have E1 := Aside0.mk e1
  have E2 := Aside0.mk e2
  have E3 := Aside0.mk e3
  have E4 := Aside0.mk e4
  have hpl : (0 : Int) < (l0.length : Int) := by have := HL.out; omega
  have hpl2 : 0 < l0.length := HL.out
  clear hT hRd hr0 hc0 hm0 hS wa hk hi hx e1 e2 e3 e4
  go_enter Tryd.func9, Tryd.ntmps9
  go_wp2_with fail
  refine (works_calls w HT.out HRD.out).mono ?_
  rintro y w1 ⟨rfl, hb⟩
  have HB := Aside0.mk hb
  clear hb
  have HCHK := Aside0.mk (check_calls w1 (HT.out.below HB.out) HS.out.small (Kd.C_below HR.out HB.out) rfl HC.out (by have := HM.out; omega))
  rw [HK.out] at HCHK
  go_wp2_with fail
  refine HCHK.out.mono ?_
  rintro y w2 ⟨rfl, hb⟩
  have n0_ := Aside0.mk (below_step HB.out hb); clear HB HCHK hb; have HB := n0_; clear n0_
  go_wp2_with fail
  refine (R0_Bring.calls at_ l0.length 0 w2 (by rw [Bring_f at_ l0.length HA.out (by have := HL.out; omega) (by have := HM.out; omega), HII.out])).mono ?_
  rintro y w3 ⟨rfl, hd⟩
  have n0_ := Aside0.mk (below_step HB.out hd.below); clear HB hd; have HB := n0_; clear n0_
  have HCR := Aside0.mk (Kd.C_below HR.out HB.out)
  obtain ⟨ad, hea, z0, z1, z2, z3, z4, z5⟩ := at_T35 HCR.out 0 (by omega) (by have := HL.out; omega)
  subst hea
  rw [HX.out] at z0 z1 z2 z3 z4 z5
  replace z0 : w3.cell? ad = some (.int .i64 0) := z0
  replace z1 : w3.cell? ⟨ad.block, ad.off + 1, none⟩ = some (.string E0) := z1
  replace z2 : w3.cell? ⟨ad.block, ad.off + 2, none⟩ = some (.int .i64 0) := z2
  replace z3 : w3.cell? ⟨ad.block, ad.off + 3, none⟩ = some (.int .i64 0) := z3
  replace z4 : w3.cell? ⟨ad.block, ad.off + 4, none⟩ = some (.int .i64 0) := z4
  replace z5 : w3.cell? ⟨ad.block, ad.off + 5, none⟩ = some (.int .i64 0) := z5
  go_wp2_with fail
  refine (text_c E1.out HCR.out rfl HC.out).mono ?_
  rintro y w4 ⟨rfl, hb⟩
  have n0_ := Aside0.mk (below_step HB.out hb); clear HB; have HB := n0_; clear n0_
  have n1_ := Aside0.mk (Kd.C_below HCR.out hb); clear HCR; have HCR := n1_; clear n1_
  replace z0 := pw_cell_below hb z0
  replace z1 := pw_cell_below hb z1
  replace z2 := pw_cell_below hb z2
  replace z3 := pw_cell_below hb z3
  replace z4 := pw_cell_below hb z4
  replace z5 := pw_cell_below hb z5
  clear hb
  go_wp2_with fail
  refine (num_c E2.out HCR.out rfl HC.out).mono ?_
  rintro y w5 ⟨rfl, hb⟩
  have n0_ := Aside0.mk (below_step HB.out hb); clear HB; have HB := n0_; clear n0_
  have n1_ := Aside0.mk (Kd.C_below HCR.out hb); clear HCR; have HCR := n1_; clear n1_
  replace z0 := pw_cell_below hb z0
  replace z1 := pw_cell_below hb z1
  replace z2 := pw_cell_below hb z2
  replace z3 := pw_cell_below hb z3
  replace z4 := pw_cell_below hb z4
  replace z5 := pw_cell_below hb z5
  clear hb
  go_wp2_with fail
  refine (class_c E3.out HCR.out rfl HC.out).mono ?_
  rintro y w6 ⟨rfl, hb⟩
  have n0_ := Aside0.mk (below_step HB.out hb); clear HB; have HB := n0_; clear n0_
  have n1_ := Aside0.mk (Kd.C_below HCR.out hb); clear HCR; have HCR := n1_; clear n1_
  replace z0 := pw_cell_below hb z0
  replace z1 := pw_cell_below hb z1
  replace z2 := pw_cell_below hb z2
  replace z3 := pw_cell_below hb z3
  replace z4 := pw_cell_below hb z4
  replace z5 := pw_cell_below hb z5
  clear hb
  go_wp2_with fail
  refine (ref_c E4.out HCR.out rfl HC.out).mono ?_
  rintro y w7 ⟨rfl, hb⟩
  have n0_ := Aside0.mk (below_step HB.out hb); clear HB; have HB := n0_; clear n0_
  have n1_ := Aside0.mk (Kd.C_below HCR.out hb); clear HCR; have HCR := n1_; clear n1_
  replace z0 := pw_cell_below hb z0
  replace z1 := pw_cell_below hb z1
  replace z2 := pw_cell_below hb z2
  replace z3 := pw_cell_below hb z3
  replace z4 := pw_cell_below hb z4
  replace z5 := pw_cell_below hb z5
  clear hb
  go_wp2
  go_ret
  exact ⟨rfl, HB.out⟩
set_option maxHeartbeats 16000000 in
set_option maxRecDepth 100000 in
theorem poolOne_text (a0 : Option Addr) (len0 cap0 : Nat) (l0 : List S35) (at_ i : Int) (tt : ByteArray) (w : World) (hr0 : Kd.C k35 w a0 l0.length l0) (hn0 : l0.length = len0) (hc0 : len0 ≤ cap0) (hm0 : len0 ≤ 1048576) (hS : Tiny l0) (wa : (Lit.int .i64 at_).wf = true) (hT : Tabs w) (hRd : Rds w)
    (hk : checkL l0 = 0) (hi : at_ % (l0.length : Int) = i) (h0 : 0 ≤ i) (h1 : i < l0.length) (hx : rd_T35 l0 i = ⟨1, tt, 0, 0, 0, 0⟩) (hpos : 0 < i)
    (e1 : textP l0 i = (tt, 0)) (e2 : numP l0 i 1 = (0, 40)) (e3 : classP l0 i = (E0, 40)) (e4 : refP l0 i 1 = (E0, E0, E0, 40)) :
    Calls Tryd.prog 9 #[.slice a0 len0 cap0, .int .i64 at_] w fun e w' => e = .returned (.bool true) ∧ Below w.heap.size w w' := by
  subst hn0
  have HT := Aside0.mk hT
  have HRD := Aside0.mk hRd
  have HR := Aside0.mk hr0
  have HC := Aside0.mk hc0
  have HM := Aside0.mk hm0
  have HS := Aside0.mk hS
  have HA := Aside0.mk (bounds_i64 wa)
  have HK := Aside0.mk hk
  have HII := Aside0.mk hi
  have HX := Aside0.mk hx
  have H0 := Aside0.mk h0
  have H1 := Aside0.mk h1
  have HL := Aside0.mk (checkL_ok hk).1
  have E1 := Aside0.mk e1
  have E2 := Aside0.mk e2
  have E3 := Aside0.mk e3
  have E4 := Aside0.mk e4
  have hmin := min_one hpos
  clear hT hRd hr0 hc0 hm0 hS wa hk hi hx e1 e2 e3 e4
  go_enter Tryd.func9, Tryd.ntmps9
  go_wp2_with fail
  refine (works_calls w HT.out HRD.out).mono ?_
  rintro y w1 ⟨rfl, hb⟩
  have HB := Aside0.mk hb
  clear hb
  have HCHK := Aside0.mk (check_calls w1 (HT.out.below HB.out) HS.out.small (Kd.C_below HR.out HB.out) rfl HC.out (by have := HM.out; omega))
  rw [HK.out] at HCHK
  go_wp2_with fail
  refine HCHK.out.mono ?_
  rintro y w2 ⟨rfl, hb⟩
  have n0_ := Aside0.mk (below_step HB.out hb); clear HB HCHK hb; have HB := n0_; clear n0_
  go_wp2_with fail
  refine (R0_Bring.calls at_ l0.length i w2 (by rw [Bring_f at_ l0.length HA.out (by have := HL.out; omega) (by have := HM.out; omega), HII.out])).mono ?_
  rintro y w3 ⟨rfl, hd⟩
  have n0_ := Aside0.mk (below_step HB.out hd.below); clear HB hd; have HB := n0_; clear n0_
  have HCR := Aside0.mk (Kd.C_below HR.out HB.out)
  obtain ⟨ad, hea, z0, z1, z2, z3, z4, z5⟩ := at_T35 HCR.out i h0 h1
  subst hea
  rw [HX.out] at z0 z1 z2 z3 z4 z5
  go_wp2_with fail
  refine (text_c E1.out HCR.out rfl HC.out).mono ?_
  rintro y w4 ⟨rfl, hb⟩
  have n0_ := Aside0.mk (below_step HB.out hb); clear HB; have HB := n0_; clear n0_
  have n1_ := Aside0.mk (Kd.C_below HCR.out hb); clear HCR; have HCR := n1_; clear n1_
  replace z0 := pw_cell_below hb z0
  replace z1 := pw_cell_below hb z1
  replace z2 := pw_cell_below hb z2
  replace z3 := pw_cell_below hb z3
  replace z4 := pw_cell_below hb z4
  replace z5 := pw_cell_below hb z5
  clear hb
  go_wp2_with fail
  refine (num_c E2.out HCR.out rfl HC.out).mono ?_
  rintro y w5 ⟨rfl, hb⟩
  have n0_ := Aside0.mk (below_step HB.out hb); clear HB; have HB := n0_; clear n0_
  have n1_ := Aside0.mk (Kd.C_below HCR.out hb); clear HCR; have HCR := n1_; clear n1_
  replace z0 := pw_cell_below hb z0
  replace z1 := pw_cell_below hb z1
  replace z2 := pw_cell_below hb z2
  replace z3 := pw_cell_below hb z3
  replace z4 := pw_cell_below hb z4
  replace z5 := pw_cell_below hb z5
  clear hb
  go_wp2_with fail
  refine (class_c E3.out HCR.out rfl HC.out).mono ?_
  rintro y w6 ⟨rfl, hb⟩
  have n0_ := Aside0.mk (below_step HB.out hb); clear HB; have HB := n0_; clear n0_
  have n1_ := Aside0.mk (Kd.C_below HCR.out hb); clear HCR; have HCR := n1_; clear n1_
  replace z0 := pw_cell_below hb z0
  replace z1 := pw_cell_below hb z1
  replace z2 := pw_cell_below hb z2
  replace z3 := pw_cell_below hb z3
  replace z4 := pw_cell_below hb z4
  replace z5 := pw_cell_below hb z5
  clear hb
  go_wp2_with fail
  refine (ref_c E4.out HCR.out rfl HC.out).mono ?_
  rintro y w7 ⟨rfl, hb⟩
  have n0_ := Aside0.mk (below_step HB.out hb); clear HB; have HB := n0_; clear n0_
  have n1_ := Aside0.mk (Kd.C_below HCR.out hb); clear HCR; have HCR := n1_; clear n1_
  replace z0 := pw_cell_below hb z0
  replace z1 := pw_cell_below hb z1
  replace z2 := pw_cell_below hb z2
  replace z3 := pw_cell_below hb z3
  replace z4 := pw_cell_below hb z4
  replace z5 := pw_cell_below hb z5
  clear hb
  go_wp2
  go_ret
  exact ⟨rfl, HB.out⟩
set_option maxHeartbeats 16000000 in
set_option maxRecDepth 100000 in
theorem poolOne_num2 (a0 : Option Addr) (len0 cap0 : Nat) (l0 : List S35) (at_ i : Int) (nn : Int) (w : World) (hr0 : Kd.C k35 w a0 l0.length l0) (hn0 : l0.length = len0) (hc0 : len0 ≤ cap0) (hm0 : len0 ≤ 1048576) (hS : Tiny l0) (wa : (Lit.int .i64 at_).wf = true) (hT : Tabs w) (hRd : Rds w)
    (hk : checkL l0 = 0) (hi : at_ % (l0.length : Int) = i) (h0 : 0 ≤ i) (h1 : i < l0.length) (hx : rd_T35 l0 i = ⟨2, E0, nn, 0, 0, 0⟩) (hpos : 0 < i)
    (e1 : textP l0 i = (E0, 40)) (e2 : numP l0 i 2 = (nn, 0)) (e3 : classP l0 i = (E0, 40)) (e4 : refP l0 i 2 = (E0, E0, E0, 40)) :
    Calls Tryd.prog 9 #[.slice a0 len0 cap0, .int .i64 at_] w fun e w' => e = .returned (.bool true) ∧ Below w.heap.size w w' := by
  subst hn0
  have HT := Aside0.mk hT
  have HRD := Aside0.mk hRd
  have HR := Aside0.mk hr0
  have HC := Aside0.mk hc0
  have HM := Aside0.mk hm0
  have HS := Aside0.mk hS
  have HA := Aside0.mk (bounds_i64 wa)
  have HK := Aside0.mk hk
  have HII := Aside0.mk hi
  have HX := Aside0.mk hx
  have H0 := Aside0.mk h0
  have H1 := Aside0.mk h1
  have HL := Aside0.mk (checkL_ok hk).1
  have E1 := Aside0.mk e1
  have E2 := Aside0.mk e2
  have E3 := Aside0.mk e3
  have E4 := Aside0.mk e4
  have hmin := min_one hpos
  clear hT hRd hr0 hc0 hm0 hS wa hk hi hx e1 e2 e3 e4
  go_enter Tryd.func9, Tryd.ntmps9
  go_wp2_with fail
  refine (works_calls w HT.out HRD.out).mono ?_
  rintro y w1 ⟨rfl, hb⟩
  have HB := Aside0.mk hb
  clear hb
  have HCHK := Aside0.mk (check_calls w1 (HT.out.below HB.out) HS.out.small (Kd.C_below HR.out HB.out) rfl HC.out (by have := HM.out; omega))
  rw [HK.out] at HCHK
  go_wp2_with fail
  refine HCHK.out.mono ?_
  rintro y w2 ⟨rfl, hb⟩
  have n0_ := Aside0.mk (below_step HB.out hb); clear HB HCHK hb; have HB := n0_; clear n0_
  go_wp2_with fail
  refine (R0_Bring.calls at_ l0.length i w2 (by rw [Bring_f at_ l0.length HA.out (by have := HL.out; omega) (by have := HM.out; omega), HII.out])).mono ?_
  rintro y w3 ⟨rfl, hd⟩
  have n0_ := Aside0.mk (below_step HB.out hd.below); clear HB hd; have HB := n0_; clear n0_
  have HCR := Aside0.mk (Kd.C_below HR.out HB.out)
  obtain ⟨ad, hea, z0, z1, z2, z3, z4, z5⟩ := at_T35 HCR.out i h0 h1
  subst hea
  rw [HX.out] at z0 z1 z2 z3 z4 z5
  go_wp2_with fail
  refine (text_c E1.out HCR.out rfl HC.out).mono ?_
  rintro y w4 ⟨rfl, hb⟩
  have n0_ := Aside0.mk (below_step HB.out hb); clear HB; have HB := n0_; clear n0_
  have n1_ := Aside0.mk (Kd.C_below HCR.out hb); clear HCR; have HCR := n1_; clear n1_
  replace z0 := pw_cell_below hb z0
  replace z1 := pw_cell_below hb z1
  replace z2 := pw_cell_below hb z2
  replace z3 := pw_cell_below hb z3
  replace z4 := pw_cell_below hb z4
  replace z5 := pw_cell_below hb z5
  clear hb
  go_wp2_with fail
  refine (num_c E2.out HCR.out rfl HC.out).mono ?_
  rintro y w5 ⟨rfl, hb⟩
  have n0_ := Aside0.mk (below_step HB.out hb); clear HB; have HB := n0_; clear n0_
  have n1_ := Aside0.mk (Kd.C_below HCR.out hb); clear HCR; have HCR := n1_; clear n1_
  replace z0 := pw_cell_below hb z0
  replace z1 := pw_cell_below hb z1
  replace z2 := pw_cell_below hb z2
  replace z3 := pw_cell_below hb z3
  replace z4 := pw_cell_below hb z4
  replace z5 := pw_cell_below hb z5
  clear hb
  go_wp2_with fail
  refine (class_c E3.out HCR.out rfl HC.out).mono ?_
  rintro y w6 ⟨rfl, hb⟩
  have n0_ := Aside0.mk (below_step HB.out hb); clear HB; have HB := n0_; clear n0_
  have n1_ := Aside0.mk (Kd.C_below HCR.out hb); clear HCR; have HCR := n1_; clear n1_
  replace z0 := pw_cell_below hb z0
  replace z1 := pw_cell_below hb z1
  replace z2 := pw_cell_below hb z2
  replace z3 := pw_cell_below hb z3
  replace z4 := pw_cell_below hb z4
  replace z5 := pw_cell_below hb z5
  clear hb
  go_wp2_with fail
  refine (ref_c E4.out HCR.out rfl HC.out).mono ?_
  rintro y w7 ⟨rfl, hb⟩
  have n0_ := Aside0.mk (below_step HB.out hb); clear HB; have HB := n0_; clear n0_
  have n1_ := Aside0.mk (Kd.C_below HCR.out hb); clear HCR; have HCR := n1_; clear n1_
  replace z0 := pw_cell_below hb z0
  replace z1 := pw_cell_below hb z1
  replace z2 := pw_cell_below hb z2
  replace z3 := pw_cell_below hb z3
  replace z4 := pw_cell_below hb z4
  replace z5 := pw_cell_below hb z5
  clear hb
  go_wp2
  go_ret
  exact ⟨rfl, HB.out⟩
set_option maxHeartbeats 16000000 in
set_option maxRecDepth 100000 in
theorem poolOne_num3 (a0 : Option Addr) (len0 cap0 : Nat) (l0 : List S35) (at_ i : Int) (nn : Int) (w : World) (hr0 : Kd.C k35 w a0 l0.length l0) (hn0 : l0.length = len0) (hc0 : len0 ≤ cap0) (hm0 : len0 ≤ 1048576) (hS : Tiny l0) (wa : (Lit.int .i64 at_).wf = true) (hT : Tabs w) (hRd : Rds w)
    (hk : checkL l0 = 0) (hi : at_ % (l0.length : Int) = i) (h0 : 0 ≤ i) (h1 : i < l0.length) (hx : rd_T35 l0 i = ⟨3, E0, nn, 0, 0, 0⟩) (hpos : 0 < i)
    (e1 : textP l0 i = (E0, 40)) (e2 : numP l0 i 3 = (nn, 0)) (e3 : classP l0 i = (E0, 40)) (e4 : refP l0 i 3 = (E0, E0, E0, 40)) :
    Calls Tryd.prog 9 #[.slice a0 len0 cap0, .int .i64 at_] w fun e w' => e = .returned (.bool true) ∧ Below w.heap.size w w' := by
  subst hn0
  have HT := Aside0.mk hT
  have HRD := Aside0.mk hRd
  have HR := Aside0.mk hr0
  have HC := Aside0.mk hc0
  have HM := Aside0.mk hm0
  have HS := Aside0.mk hS
  have HA := Aside0.mk (bounds_i64 wa)
  have HK := Aside0.mk hk
  have HII := Aside0.mk hi
  have HX := Aside0.mk hx
  have H0 := Aside0.mk h0
  have H1 := Aside0.mk h1
  have HL := Aside0.mk (checkL_ok hk).1
  have E1 := Aside0.mk e1
  have E2 := Aside0.mk e2
  have E3 := Aside0.mk e3
  have E4 := Aside0.mk e4
  have hmin := min_one hpos
  clear hT hRd hr0 hc0 hm0 hS wa hk hi hx e1 e2 e3 e4
  go_enter Tryd.func9, Tryd.ntmps9
  go_wp2_with fail
  refine (works_calls w HT.out HRD.out).mono ?_
  rintro y w1 ⟨rfl, hb⟩
  have HB := Aside0.mk hb
  clear hb
  have HCHK := Aside0.mk (check_calls w1 (HT.out.below HB.out) HS.out.small (Kd.C_below HR.out HB.out) rfl HC.out (by have := HM.out; omega))
  rw [HK.out] at HCHK
  go_wp2_with fail
  refine HCHK.out.mono ?_
  rintro y w2 ⟨rfl, hb⟩
  have n0_ := Aside0.mk (below_step HB.out hb); clear HB HCHK hb; have HB := n0_; clear n0_
  go_wp2_with fail
  refine (R0_Bring.calls at_ l0.length i w2 (by rw [Bring_f at_ l0.length HA.out (by have := HL.out; omega) (by have := HM.out; omega), HII.out])).mono ?_
  rintro y w3 ⟨rfl, hd⟩
  have n0_ := Aside0.mk (below_step HB.out hd.below); clear HB hd; have HB := n0_; clear n0_
  have HCR := Aside0.mk (Kd.C_below HR.out HB.out)
  obtain ⟨ad, hea, z0, z1, z2, z3, z4, z5⟩ := at_T35 HCR.out i h0 h1
  subst hea
  rw [HX.out] at z0 z1 z2 z3 z4 z5
  go_wp2_with fail
  refine (text_c E1.out HCR.out rfl HC.out).mono ?_
  rintro y w4 ⟨rfl, hb⟩
  have n0_ := Aside0.mk (below_step HB.out hb); clear HB; have HB := n0_; clear n0_
  have n1_ := Aside0.mk (Kd.C_below HCR.out hb); clear HCR; have HCR := n1_; clear n1_
  replace z0 := pw_cell_below hb z0
  replace z1 := pw_cell_below hb z1
  replace z2 := pw_cell_below hb z2
  replace z3 := pw_cell_below hb z3
  replace z4 := pw_cell_below hb z4
  replace z5 := pw_cell_below hb z5
  clear hb
  go_wp2_with fail
  refine (num_c E2.out HCR.out rfl HC.out).mono ?_
  rintro y w5 ⟨rfl, hb⟩
  have n0_ := Aside0.mk (below_step HB.out hb); clear HB; have HB := n0_; clear n0_
  have n1_ := Aside0.mk (Kd.C_below HCR.out hb); clear HCR; have HCR := n1_; clear n1_
  replace z0 := pw_cell_below hb z0
  replace z1 := pw_cell_below hb z1
  replace z2 := pw_cell_below hb z2
  replace z3 := pw_cell_below hb z3
  replace z4 := pw_cell_below hb z4
  replace z5 := pw_cell_below hb z5
  clear hb
  go_wp2_with fail
  refine (class_c E3.out HCR.out rfl HC.out).mono ?_
  rintro y w6 ⟨rfl, hb⟩
  have n0_ := Aside0.mk (below_step HB.out hb); clear HB; have HB := n0_; clear n0_
  have n1_ := Aside0.mk (Kd.C_below HCR.out hb); clear HCR; have HCR := n1_; clear n1_
  replace z0 := pw_cell_below hb z0
  replace z1 := pw_cell_below hb z1
  replace z2 := pw_cell_below hb z2
  replace z3 := pw_cell_below hb z3
  replace z4 := pw_cell_below hb z4
  replace z5 := pw_cell_below hb z5
  clear hb
  go_wp2_with fail
  refine (ref_c E4.out HCR.out rfl HC.out).mono ?_
  rintro y w7 ⟨rfl, hb⟩
  have n0_ := Aside0.mk (below_step HB.out hb); clear HB; have HB := n0_; clear n0_
  have n1_ := Aside0.mk (Kd.C_below HCR.out hb); clear HCR; have HCR := n1_; clear n1_
  replace z0 := pw_cell_below hb z0
  replace z1 := pw_cell_below hb z1
  replace z2 := pw_cell_below hb z2
  replace z3 := pw_cell_below hb z3
  replace z4 := pw_cell_below hb z4
  replace z5 := pw_cell_below hb z5
  clear hb
  go_wp2
  go_ret
  exact ⟨rfl, HB.out⟩
set_option maxHeartbeats 16000000 in
set_option maxRecDepth 100000 in
theorem poolOne_class (a0 : Option Addr) (len0 cap0 : Nat) (l0 : List S35) (at_ i : Int) (aa : Int) (cc : ByteArray) (w : World) (hr0 : Kd.C k35 w a0 l0.length l0) (hn0 : l0.length = len0) (hc0 : len0 ≤ cap0) (hm0 : len0 ≤ 1048576) (hS : Tiny l0) (wa : (Lit.int .i64 at_).wf = true) (hT : Tabs w) (hRd : Rds w)
    (hk : checkL l0 = 0) (hi : at_ % (l0.length : Int) = i) (h0 : 0 ≤ i) (h1 : i < l0.length) (hx : rd_T35 l0 i = ⟨4, E0, 0, aa, 0, 0⟩) (hpos : 0 < i)
    (e1 : textP l0 i = (E0, 40)) (e2 : numP l0 i 4 = (0, 40)) (e3 : classP l0 i = (cc, 0)) (e4 : refP l0 i 4 = (E0, E0, E0, 40)) :
    Calls Tryd.prog 9 #[.slice a0 len0 cap0, .int .i64 at_] w fun e w' => e = .returned (.bool true) ∧ Below w.heap.size w w' := by
  subst hn0
  have HT := Aside0.mk hT
  have HRD := Aside0.mk hRd
  have HR := Aside0.mk hr0
  have HC := Aside0.mk hc0
  have HM := Aside0.mk hm0
  have HS := Aside0.mk hS
  have HA := Aside0.mk (bounds_i64 wa)
  have HK := Aside0.mk hk
  have HII := Aside0.mk hi
  have HX := Aside0.mk hx
  have H0 := Aside0.mk h0
  have H1 := Aside0.mk h1
  have HL := Aside0.mk (checkL_ok hk).1
  have E1 := Aside0.mk e1
  have E2 := Aside0.mk e2
  have E3 := Aside0.mk e3
  have E4 := Aside0.mk e4
  have hmin := min_one hpos
  clear hT hRd hr0 hc0 hm0 hS wa hk hi hx e1 e2 e3 e4
  go_enter Tryd.func9, Tryd.ntmps9
  go_wp2_with fail
  refine (works_calls w HT.out HRD.out).mono ?_
  rintro y w1 ⟨rfl, hb⟩
  have HB := Aside0.mk hb
  clear hb
  have HCHK := Aside0.mk (check_calls w1 (HT.out.below HB.out) HS.out.small (Kd.C_below HR.out HB.out) rfl HC.out (by have := HM.out; omega))
  rw [HK.out] at HCHK
  go_wp2_with fail
  refine HCHK.out.mono ?_
  rintro y w2 ⟨rfl, hb⟩
  have n0_ := Aside0.mk (below_step HB.out hb); clear HB HCHK hb; have HB := n0_; clear n0_
  go_wp2_with fail
  refine (R0_Bring.calls at_ l0.length i w2 (by rw [Bring_f at_ l0.length HA.out (by have := HL.out; omega) (by have := HM.out; omega), HII.out])).mono ?_
  rintro y w3 ⟨rfl, hd⟩
  have n0_ := Aside0.mk (below_step HB.out hd.below); clear HB hd; have HB := n0_; clear n0_
  have HCR := Aside0.mk (Kd.C_below HR.out HB.out)
  obtain ⟨ad, hea, z0, z1, z2, z3, z4, z5⟩ := at_T35 HCR.out i h0 h1
  subst hea
  rw [HX.out] at z0 z1 z2 z3 z4 z5
  go_wp2_with fail
  refine (text_c E1.out HCR.out rfl HC.out).mono ?_
  rintro y w4 ⟨rfl, hb⟩
  have n0_ := Aside0.mk (below_step HB.out hb); clear HB; have HB := n0_; clear n0_
  have n1_ := Aside0.mk (Kd.C_below HCR.out hb); clear HCR; have HCR := n1_; clear n1_
  replace z0 := pw_cell_below hb z0
  replace z1 := pw_cell_below hb z1
  replace z2 := pw_cell_below hb z2
  replace z3 := pw_cell_below hb z3
  replace z4 := pw_cell_below hb z4
  replace z5 := pw_cell_below hb z5
  clear hb
  go_wp2_with fail
  refine (num_c E2.out HCR.out rfl HC.out).mono ?_
  rintro y w5 ⟨rfl, hb⟩
  have n0_ := Aside0.mk (below_step HB.out hb); clear HB; have HB := n0_; clear n0_
  have n1_ := Aside0.mk (Kd.C_below HCR.out hb); clear HCR; have HCR := n1_; clear n1_
  replace z0 := pw_cell_below hb z0
  replace z1 := pw_cell_below hb z1
  replace z2 := pw_cell_below hb z2
  replace z3 := pw_cell_below hb z3
  replace z4 := pw_cell_below hb z4
  replace z5 := pw_cell_below hb z5
  clear hb
  go_wp2_with fail
  refine (class_c E3.out HCR.out rfl HC.out).mono ?_
  rintro y w6 ⟨rfl, hb⟩
  have n0_ := Aside0.mk (below_step HB.out hb); clear HB; have HB := n0_; clear n0_
  have n1_ := Aside0.mk (Kd.C_below HCR.out hb); clear HCR; have HCR := n1_; clear n1_
  replace z0 := pw_cell_below hb z0
  replace z1 := pw_cell_below hb z1
  replace z2 := pw_cell_below hb z2
  replace z3 := pw_cell_below hb z3
  replace z4 := pw_cell_below hb z4
  replace z5 := pw_cell_below hb z5
  clear hb
  go_wp2_with fail
  refine (ref_c E4.out HCR.out rfl HC.out).mono ?_
  rintro y w7 ⟨rfl, hb⟩
  have n0_ := Aside0.mk (below_step HB.out hb); clear HB; have HB := n0_; clear n0_
  have n1_ := Aside0.mk (Kd.C_below HCR.out hb); clear HCR; have HCR := n1_; clear n1_
  replace z0 := pw_cell_below hb z0
  replace z1 := pw_cell_below hb z1
  replace z2 := pw_cell_below hb z2
  replace z3 := pw_cell_below hb z3
  replace z4 := pw_cell_below hb z4
  replace z5 := pw_cell_below hb z5
  clear hb
  go_wp2
  go_ret
  exact ⟨rfl, HB.out⟩
set_option maxHeartbeats 16000000 in
set_option maxRecDepth 100000 in
theorem poolOne_ref5 (a0 : Option Addr) (len0 cap0 : Nat) (l0 : List S35) (at_ i : Int) (aa bb dd : Int) (r1 r2 r3 : ByteArray) (w : World) (hr0 : Kd.C k35 w a0 l0.length l0) (hn0 : l0.length = len0) (hc0 : len0 ≤ cap0) (hm0 : len0 ≤ 1048576) (hS : Tiny l0) (wa : (Lit.int .i64 at_).wf = true) (hT : Tabs w) (hRd : Rds w)
    (hk : checkL l0 = 0) (hi : at_ % (l0.length : Int) = i) (h0 : 0 ≤ i) (h1 : i < l0.length) (hx : rd_T35 l0 i = ⟨5, E0, 0, aa, bb, dd⟩) (hpos : 0 < i) (e5 : classP l0 aa = (r1, 0)) (e6 : textP l0 bb = (r2, 0)) (e7 : textP l0 dd = (r3, 0))
    (e1 : textP l0 i = (E0, 40)) (e2 : numP l0 i 5 = (0, 40)) (e3 : classP l0 i = (E0, 40)) (e4 : refP l0 i 5 = (r1, r2, r3, 0)) :
    Calls Tryd.prog 9 #[.slice a0 len0 cap0, .int .i64 at_] w fun e w' => e = .returned (.bool true) ∧ Below w.heap.size w w' := by
  subst hn0
  have HT := Aside0.mk hT
  have HRD := Aside0.mk hRd
  have HR := Aside0.mk hr0
  have HC := Aside0.mk hc0
  have HM := Aside0.mk hm0
  have HS := Aside0.mk hS
  have HA := Aside0.mk (bounds_i64 wa)
  have HK := Aside0.mk hk
  have HII := Aside0.mk hi
  have HX := Aside0.mk hx
  have H0 := Aside0.mk h0
  have H1 := Aside0.mk h1
  have HL := Aside0.mk (checkL_ok hk).1
  have E1 := Aside0.mk e1
  have E2 := Aside0.mk e2
  have E3 := Aside0.mk e3
  have E4 := Aside0.mk e4
  have hmin := min_one hpos
  have E5 := Aside0.mk e5
  have E6 := Aside0.mk e6
  have E7 := Aside0.mk e7
  clear e5 e6 e7
  clear hT hRd hr0 hc0 hm0 hS wa hk hi hx e1 e2 e3 e4
  go_enter Tryd.func9, Tryd.ntmps9
  go_wp2_with fail
  refine (works_calls w HT.out HRD.out).mono ?_
  rintro y w1 ⟨rfl, hb⟩
  have HB := Aside0.mk hb
  clear hb
  have HCHK := Aside0.mk (check_calls w1 (HT.out.below HB.out) HS.out.small (Kd.C_below HR.out HB.out) rfl HC.out (by have := HM.out; omega))
  rw [HK.out] at HCHK
  go_wp2_with fail
  refine HCHK.out.mono ?_
  rintro y w2 ⟨rfl, hb⟩
  have n0_ := Aside0.mk (below_step HB.out hb); clear HB HCHK hb; have HB := n0_; clear n0_
  go_wp2_with fail
  refine (R0_Bring.calls at_ l0.length i w2 (by rw [Bring_f at_ l0.length HA.out (by have := HL.out; omega) (by have := HM.out; omega), HII.out])).mono ?_
  rintro y w3 ⟨rfl, hd⟩
  have n0_ := Aside0.mk (below_step HB.out hd.below); clear HB hd; have HB := n0_; clear n0_
  have HCR := Aside0.mk (Kd.C_below HR.out HB.out)
  obtain ⟨ad, hea, z0, z1, z2, z3, z4, z5⟩ := at_T35 HCR.out i h0 h1
  subst hea
  rw [HX.out] at z0 z1 z2 z3 z4 z5
  go_wp2_with fail
  refine (text_c E1.out HCR.out rfl HC.out).mono ?_
  rintro y w4 ⟨rfl, hb⟩
  have n0_ := Aside0.mk (below_step HB.out hb); clear HB; have HB := n0_; clear n0_
  have n1_ := Aside0.mk (Kd.C_below HCR.out hb); clear HCR; have HCR := n1_; clear n1_
  replace z0 := pw_cell_below hb z0
  replace z1 := pw_cell_below hb z1
  replace z2 := pw_cell_below hb z2
  replace z3 := pw_cell_below hb z3
  replace z4 := pw_cell_below hb z4
  replace z5 := pw_cell_below hb z5
  clear hb
  go_wp2_with fail
  refine (num_c E2.out HCR.out rfl HC.out).mono ?_
  rintro y w5 ⟨rfl, hb⟩
  have n0_ := Aside0.mk (below_step HB.out hb); clear HB; have HB := n0_; clear n0_
  have n1_ := Aside0.mk (Kd.C_below HCR.out hb); clear HCR; have HCR := n1_; clear n1_
  replace z0 := pw_cell_below hb z0
  replace z1 := pw_cell_below hb z1
  replace z2 := pw_cell_below hb z2
  replace z3 := pw_cell_below hb z3
  replace z4 := pw_cell_below hb z4
  replace z5 := pw_cell_below hb z5
  clear hb
  go_wp2_with fail
  refine (class_c E3.out HCR.out rfl HC.out).mono ?_
  rintro y w6 ⟨rfl, hb⟩
  have n0_ := Aside0.mk (below_step HB.out hb); clear HB; have HB := n0_; clear n0_
  have n1_ := Aside0.mk (Kd.C_below HCR.out hb); clear HCR; have HCR := n1_; clear n1_
  replace z0 := pw_cell_below hb z0
  replace z1 := pw_cell_below hb z1
  replace z2 := pw_cell_below hb z2
  replace z3 := pw_cell_below hb z3
  replace z4 := pw_cell_below hb z4
  replace z5 := pw_cell_below hb z5
  clear hb
  go_wp2_with fail
  refine (ref_c E4.out HCR.out rfl HC.out).mono ?_
  rintro y w7 ⟨rfl, hb⟩
  have n0_ := Aside0.mk (below_step HB.out hb); clear HB; have HB := n0_; clear n0_
  have n1_ := Aside0.mk (Kd.C_below HCR.out hb); clear HCR; have HCR := n1_; clear n1_
  replace z0 := pw_cell_below hb z0
  replace z1 := pw_cell_below hb z1
  replace z2 := pw_cell_below hb z2
  replace z3 := pw_cell_below hb z3
  replace z4 := pw_cell_below hb z4
  replace z5 := pw_cell_below hb z5
  clear hb
  go_wp2_with fail
  refine (class_c E5.out HCR.out rfl HC.out).mono ?_
  rintro y w8 ⟨rfl, hb⟩
  have n0_ := Aside0.mk (below_step HB.out hb); clear HB; have HB := n0_; clear n0_
  have n1_ := Aside0.mk (Kd.C_below HCR.out hb); clear HCR; have HCR := n1_; clear n1_
  replace z0 := pw_cell_below hb z0
  replace z1 := pw_cell_below hb z1
  replace z2 := pw_cell_below hb z2
  replace z3 := pw_cell_below hb z3
  replace z4 := pw_cell_below hb z4
  replace z5 := pw_cell_below hb z5
  clear hb
  go_wp2_with fail
  refine (text_c E6.out HCR.out rfl HC.out).mono ?_
  rintro y w9 ⟨rfl, hb⟩
  have n0_ := Aside0.mk (below_step HB.out hb); clear HB; have HB := n0_; clear n0_
  have n1_ := Aside0.mk (Kd.C_below HCR.out hb); clear HCR; have HCR := n1_; clear n1_
  replace z0 := pw_cell_below hb z0
  replace z1 := pw_cell_below hb z1
  replace z2 := pw_cell_below hb z2
  replace z3 := pw_cell_below hb z3
  replace z4 := pw_cell_below hb z4
  replace z5 := pw_cell_below hb z5
  clear hb
  go_wp2_with fail
  refine (text_c E7.out HCR.out rfl HC.out).mono ?_
  rintro y w10 ⟨rfl, hb⟩
  have n0_ := Aside0.mk (below_step HB.out hb); clear HB; have HB := n0_; clear n0_
  have n1_ := Aside0.mk (Kd.C_below HCR.out hb); clear HCR; have HCR := n1_; clear n1_
  replace z0 := pw_cell_below hb z0
  replace z1 := pw_cell_below hb z1
  replace z2 := pw_cell_below hb z2
  replace z3 := pw_cell_below hb z3
  replace z4 := pw_cell_below hb z4
  replace z5 := pw_cell_below hb z5
  clear hb
  go_wp2
  go_ret
  exact ⟨rfl, HB.out⟩
set_option maxHeartbeats 16000000 in
set_option maxRecDepth 100000 in
theorem poolOne_ref6 (a0 : Option Addr) (len0 cap0 : Nat) (l0 : List S35) (at_ i : Int) (aa bb dd : Int) (r1 r2 r3 : ByteArray) (w : World) (hr0 : Kd.C k35 w a0 l0.length l0) (hn0 : l0.length = len0) (hc0 : len0 ≤ cap0) (hm0 : len0 ≤ 1048576) (hS : Tiny l0) (wa : (Lit.int .i64 at_).wf = true) (hT : Tabs w) (hRd : Rds w)
    (hk : checkL l0 = 0) (hi : at_ % (l0.length : Int) = i) (h0 : 0 ≤ i) (h1 : i < l0.length) (hx : rd_T35 l0 i = ⟨6, E0, 0, aa, bb, dd⟩) (hpos : 0 < i) (e5 : classP l0 aa = (r1, 0)) (e6 : textP l0 bb = (r2, 0)) (e7 : textP l0 dd = (r3, 0))
    (e1 : textP l0 i = (E0, 40)) (e2 : numP l0 i 6 = (0, 40)) (e3 : classP l0 i = (E0, 40)) (e4 : refP l0 i 6 = (r1, r2, r3, 0)) :
    Calls Tryd.prog 9 #[.slice a0 len0 cap0, .int .i64 at_] w fun e w' => e = .returned (.bool true) ∧ Below w.heap.size w w' := by
  subst hn0
  have HT := Aside0.mk hT
  have HRD := Aside0.mk hRd
  have HR := Aside0.mk hr0
  have HC := Aside0.mk hc0
  have HM := Aside0.mk hm0
  have HS := Aside0.mk hS
  have HA := Aside0.mk (bounds_i64 wa)
  have HK := Aside0.mk hk
  have HII := Aside0.mk hi
  have HX := Aside0.mk hx
  have H0 := Aside0.mk h0
  have H1 := Aside0.mk h1
  have HL := Aside0.mk (checkL_ok hk).1
  have E1 := Aside0.mk e1
  have E2 := Aside0.mk e2
  have E3 := Aside0.mk e3
  have E4 := Aside0.mk e4
  have hmin := min_one hpos
  have E5 := Aside0.mk e5
  have E6 := Aside0.mk e6
  have E7 := Aside0.mk e7
  clear e5 e6 e7
  clear hT hRd hr0 hc0 hm0 hS wa hk hi hx e1 e2 e3 e4
  go_enter Tryd.func9, Tryd.ntmps9
  go_wp2_with fail
  refine (works_calls w HT.out HRD.out).mono ?_
  rintro y w1 ⟨rfl, hb⟩
  have HB := Aside0.mk hb
  clear hb
  have HCHK := Aside0.mk (check_calls w1 (HT.out.below HB.out) HS.out.small (Kd.C_below HR.out HB.out) rfl HC.out (by have := HM.out; omega))
  rw [HK.out] at HCHK
  go_wp2_with fail
  refine HCHK.out.mono ?_
  rintro y w2 ⟨rfl, hb⟩
  have n0_ := Aside0.mk (below_step HB.out hb); clear HB HCHK hb; have HB := n0_; clear n0_
  go_wp2_with fail
  refine (R0_Bring.calls at_ l0.length i w2 (by rw [Bring_f at_ l0.length HA.out (by have := HL.out; omega) (by have := HM.out; omega), HII.out])).mono ?_
  rintro y w3 ⟨rfl, hd⟩
  have n0_ := Aside0.mk (below_step HB.out hd.below); clear HB hd; have HB := n0_; clear n0_
  have HCR := Aside0.mk (Kd.C_below HR.out HB.out)
  obtain ⟨ad, hea, z0, z1, z2, z3, z4, z5⟩ := at_T35 HCR.out i h0 h1
  subst hea
  rw [HX.out] at z0 z1 z2 z3 z4 z5
  go_wp2_with fail
  refine (text_c E1.out HCR.out rfl HC.out).mono ?_
  rintro y w4 ⟨rfl, hb⟩
  have n0_ := Aside0.mk (below_step HB.out hb); clear HB; have HB := n0_; clear n0_
  have n1_ := Aside0.mk (Kd.C_below HCR.out hb); clear HCR; have HCR := n1_; clear n1_
  replace z0 := pw_cell_below hb z0
  replace z1 := pw_cell_below hb z1
  replace z2 := pw_cell_below hb z2
  replace z3 := pw_cell_below hb z3
  replace z4 := pw_cell_below hb z4
  replace z5 := pw_cell_below hb z5
  clear hb
  go_wp2_with fail
  refine (num_c E2.out HCR.out rfl HC.out).mono ?_
  rintro y w5 ⟨rfl, hb⟩
  have n0_ := Aside0.mk (below_step HB.out hb); clear HB; have HB := n0_; clear n0_
  have n1_ := Aside0.mk (Kd.C_below HCR.out hb); clear HCR; have HCR := n1_; clear n1_
  replace z0 := pw_cell_below hb z0
  replace z1 := pw_cell_below hb z1
  replace z2 := pw_cell_below hb z2
  replace z3 := pw_cell_below hb z3
  replace z4 := pw_cell_below hb z4
  replace z5 := pw_cell_below hb z5
  clear hb
  go_wp2_with fail
  refine (class_c E3.out HCR.out rfl HC.out).mono ?_
  rintro y w6 ⟨rfl, hb⟩
  have n0_ := Aside0.mk (below_step HB.out hb); clear HB; have HB := n0_; clear n0_
  have n1_ := Aside0.mk (Kd.C_below HCR.out hb); clear HCR; have HCR := n1_; clear n1_
  replace z0 := pw_cell_below hb z0
  replace z1 := pw_cell_below hb z1
  replace z2 := pw_cell_below hb z2
  replace z3 := pw_cell_below hb z3
  replace z4 := pw_cell_below hb z4
  replace z5 := pw_cell_below hb z5
  clear hb
  go_wp2_with fail
  refine (ref_c E4.out HCR.out rfl HC.out).mono ?_
  rintro y w7 ⟨rfl, hb⟩
  have n0_ := Aside0.mk (below_step HB.out hb); clear HB; have HB := n0_; clear n0_
  have n1_ := Aside0.mk (Kd.C_below HCR.out hb); clear HCR; have HCR := n1_; clear n1_
  replace z0 := pw_cell_below hb z0
  replace z1 := pw_cell_below hb z1
  replace z2 := pw_cell_below hb z2
  replace z3 := pw_cell_below hb z3
  replace z4 := pw_cell_below hb z4
  replace z5 := pw_cell_below hb z5
  clear hb
  go_wp2_with fail
  refine (class_c E5.out HCR.out rfl HC.out).mono ?_
  rintro y w8 ⟨rfl, hb⟩
  have n0_ := Aside0.mk (below_step HB.out hb); clear HB; have HB := n0_; clear n0_
  have n1_ := Aside0.mk (Kd.C_below HCR.out hb); clear HCR; have HCR := n1_; clear n1_
  replace z0 := pw_cell_below hb z0
  replace z1 := pw_cell_below hb z1
  replace z2 := pw_cell_below hb z2
  replace z3 := pw_cell_below hb z3
  replace z4 := pw_cell_below hb z4
  replace z5 := pw_cell_below hb z5
  clear hb
  go_wp2_with fail
  refine (text_c E6.out HCR.out rfl HC.out).mono ?_
  rintro y w9 ⟨rfl, hb⟩
  have n0_ := Aside0.mk (below_step HB.out hb); clear HB; have HB := n0_; clear n0_
  have n1_ := Aside0.mk (Kd.C_below HCR.out hb); clear HCR; have HCR := n1_; clear n1_
  replace z0 := pw_cell_below hb z0
  replace z1 := pw_cell_below hb z1
  replace z2 := pw_cell_below hb z2
  replace z3 := pw_cell_below hb z3
  replace z4 := pw_cell_below hb z4
  replace z5 := pw_cell_below hb z5
  clear hb
  go_wp2_with fail
  refine (text_c E7.out HCR.out rfl HC.out).mono ?_
  rintro y w10 ⟨rfl, hb⟩
  have n0_ := Aside0.mk (below_step HB.out hb); clear HB; have HB := n0_; clear n0_
  have n1_ := Aside0.mk (Kd.C_below HCR.out hb); clear HCR; have HCR := n1_; clear n1_
  replace z0 := pw_cell_below hb z0
  replace z1 := pw_cell_below hb z1
  replace z2 := pw_cell_below hb z2
  replace z3 := pw_cell_below hb z3
  replace z4 := pw_cell_below hb z4
  replace z5 := pw_cell_below hb z5
  clear hb
  go_wp2
  go_ret
  exact ⟨rfl, HB.out⟩
set_option maxHeartbeats 8000000 in
set_option maxRecDepth 100000 in
theorem poolOne_walk (a0 : Option Addr) (len0 cap0 : Nat) (l0 : List S35) (at_ : Int) (w : World) (hr0 : Kd.C k35 w a0 l0.length l0) (hn0 : l0.length = len0) (hc0 : len0 ≤ cap0) (hm0 : len0 ≤ 1048576) (hs0 : ∀ c ∈ l0, c.f1.size ≤ 1048576) (hi0 : Ints l0) (wa : (Lit.int .i64 at_).wf = true) (hT : Tabs w) (hRd : Rds w) :
    Calls Tryd.prog 9 #[.slice a0 len0 cap0, .int .i64 at_] w fun e w' => e = .returned (.bool true) ∧ Below w.heap.size w w' := by
  have hS := tiny_of hs0
  by_cases hk : checkL l0 = 0
  · obtain ⟨hlp, hmx, hf, hz⟩ := checkL_ok hk
    obtain ⟨i, hi⟩ : ∃ i, at_ % (l0.length : Int) = i := ⟨_, rfl⟩
    have h0 : 0 ≤ i := by rw [← hi]; exact Int.emod_nonneg _ (by omega)
    have h1 : i < l0.length := by rw [← hi]; exact Int.emod_lt_of_pos _ (by omega)
    by_cases hpos : 0 < i
    · have hm := hf _ (rd_mem hpos h1)
      obtain ⟨⟨kk, tt, nn, aa, bb, dd⟩, hx⟩ : ∃ x, rd_T35 l0 i = x := ⟨_, rfl⟩
      rw [hx] at hm
      have hB : ∀ k, isB l0 i k = (kk == k) := fun k => isB_in hpos h1 hx
      rcases fits_kinds hm with rfl | hk2 | rfl | hk5
      · obtain ⟨-, rfl, rfl, rfl, rfl⟩ := fits_1 hm
        exact poolOne_text a0 len0 cap0 l0 at_ i tt w hr0 hn0 hc0 hm0 hS wa hT hRd hk hi h0 h1 hx hpos (by unfold textP; rw [hB, hx]; rfl) (by unfold numP; rw [if_neg (by omega)]) (by unfold classP; rw [hB]; rfl) (refP_bad _ _ _ (by omega))
      · obtain ⟨rfl, rfl, rfl, rfl⟩ := fits_2 hk2 hm
        rcases hk2 with rfl | rfl
        · exact poolOne_num2 a0 len0 cap0 l0 at_ i nn w hr0 hn0 hc0 hm0 hS wa hT hRd hk hi h0 h1 hx hpos (by unfold textP; rw [hB]; rfl) (by unfold numP; rw [hB, if_pos ⟨by omega, rfl⟩, hx]) (by unfold classP; rw [hB]; rfl) (refP_bad _ _ _ (by omega))
        · exact poolOne_num3 a0 len0 cap0 l0 at_ i nn w hr0 hn0 hc0 hm0 hS wa hT hRd hk hi h0 h1 hx hpos (by unfold textP; rw [hB]; rfl) (by unfold numP; rw [hB, if_pos ⟨by omega, rfl⟩, hx]) (by unfold classP; rw [hB]; rfl) (refP_bad _ _ _ (by omega))
      · have h4 := fits_4b hm
        obtain ⟨rfl, rfl, rfl, rfl, -, -⟩ := fits_4 hm
        exact poolOne_class a0 len0 cap0 l0 at_ i aa (rd_T35 l0 aa).f1 w hr0 hn0 hc0 hm0 hS wa hT hRd hk hi h0 h1 hx hpos (by unfold textP; rw [hB]; rfl) (by unfold numP; rw [if_neg (by omega)]) (by unfold classP; rw [if_pos (by rw [hB]; rfl), hx]; exact text_ok h4) (refP_bad _ _ _ (by omega))
      · obtain ⟨g1, g2, g3⟩ := fits_5b hk5 hm
        obtain ⟨rfl, rfl, -, -, -⟩ := fits_5 hk5 hm
        obtain ⟨r1, hr1⟩ := class_ok hf g1
        have hr2 := text_ok g2
        have hr3 := text_ok g3
        have hR : refP l0 i kk = (r1, (rd_T35 l0 bb).f1, (rd_T35 l0 dd).f1, 0) := by
          unfold refP
          rw [if_pos ⟨hk5, by rw [hB]; exact beq_self_eq_true kk⟩, hx]
          simp only [hr1, hr2, hr3]
          rw [if_pos ⟨trivial, trivial, trivial⟩]
        rcases hk5 with rfl | rfl
        · exact poolOne_ref5 a0 len0 cap0 l0 at_ i aa bb dd r1 _ _ w hr0 hn0 hc0 hm0 hS wa hT hRd hk hi h0 h1 hx hpos hr1 hr2 hr3 (by unfold textP; rw [hB]; rfl) (by unfold numP; rw [if_neg (by omega)]) (by unfold classP; rw [hB]; rfl) hR
        · exact poolOne_ref6 a0 len0 cap0 l0 at_ i aa bb dd r1 _ _ w hr0 hn0 hc0 hm0 hS wa hT hRd hk hi h0 h1 hx hpos hr1 hr2 hr3 (by unfold textP; rw [hB]; rfl) (by unfold numP; rw [if_neg (by omega)]) (by unfold classP; rw [hB]; rfl) hR
    · have hi0' : i = 0 := by omega
      subst hi0'
      have hx : rd_T35 l0 0 = ⟨0, E0, 0, 0, 0, 0⟩ := zeroB_eq hz
      exact poolOne_zero a0 len0 cap0 l0 at_ w hr0 hn0 hc0 hm0 hS wa hT hRd hk hi hx (by unfold textP; rw [isB_zero]; rfl) (by unfold numP; rw [if_neg (by omega)]) (by unfold classP; rw [isB_zero]; rfl) (refP_bad _ _ _ (by omega))
  · have HT := Aside0.mk hT
    have HRD := Aside0.mk hRd
    have HR := Aside0.mk hr0
    have HN := Aside0.mk hn0
    have HC := Aside0.mk hc0
    have HM := Aside0.mk hm0
    have HS := Aside0.mk hS
    obtain ⟨ck, hck⟩ : ∃ ck, checkL l0 = ck := ⟨_, rfl⟩
    have HCK := Aside0.mk hck
    have q1 : (ck != 0) = true := bne_iff_ne.2 (hck ▸ hk)
    clear hk hck hT hRd hr0 hn0 hc0 hm0 hs0 hi0 hS wa
    go_enter Tryd.func9, Tryd.ntmps9
    go_wp2_with fail
    refine (works_calls w HT.out HRD.out).mono ?_
    rintro y w1 ⟨rfl, hb⟩
    have HB := Aside0.mk hb
    clear hb
    have HCHK := Aside0.mk (check_calls w1 (HT.out.below HB.out) HS.out.small (Kd.C_below HR.out HB.out) HN.out HC.out (by have := HM.out; omega))
    rw [HCK.out] at HCHK
    go_wp2_with fail
    refine HCHK.out.mono ?_
    rintro y w2 ⟨rfl, hb⟩
    have HB2 := Aside0.mk (below_step HB.out hb)
    clear hb HCHK
    go_wp2
    go_ret
    exact ⟨rfl, HB2.out⟩
end Go.Proofs.YtkhigagkgpfpfaaDoor.Ext

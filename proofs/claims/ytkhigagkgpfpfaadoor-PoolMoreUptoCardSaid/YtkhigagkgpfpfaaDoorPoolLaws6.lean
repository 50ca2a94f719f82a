/- The law PoolMore, walked. -/
import Derived.Test.YtkhigagkgpfpfaaDoorPoolMore
import Derived.Test.YtkhigagkgpfpfaaDoorPoolLaid2
import Derived.Test.YtkhigagkgpfpfaaDoorShelfItoa
import Derived.Test.YtkhigagkgpfpfaaDoorPBring
import Derived.Lib.AppendIntMem
set_option linter.unusedVariables false
set_option linter.unusedSimpArgs false
namespace Go.Proofs.YtkhigagkgpfpfaaDoor.Ext
open Go.RowKit Go.Lib Go.Proofs.YtkhigagkgpfpfaaDoorW.PrintWords Go.Proofs.YtkhigagkgpfpfaaDoorW.PrintLast Go.Proofs.YtkhigagkgpfpfaaDoorW.PrintMore Go.Proofs.YtkhigagkgpfpfaaDoor.PLeb
attribute [local go_sem] max2_int min2_int max_two min_two max_three min_three max_four min_four

theorem itoa_c (n : Int) (w : World) (h0 : -9223372036854775808 ≤ n) (h1 : n ≤ 9223372036854775807) (hP : Pow w) :
    Calls Tryd.prog 19 #[.int .i64 n] w fun e w' => e = .returned (.string (numeral n)) ∧ Below w.heap.size w w' := by
  refine (Tryd.strconv_Itoa n h0 h1 w hP).mono ?_
  rintro e w' ⟨rfl, k, os, rfl⟩
  exact ⟨rfl, below_grow _ w (Nat.le_refl _) k os⟩
theorem k35_M2 {w : World} (base : Nat) (okp : Nat → Prop) (x : S35) (cs : List Value) (h : k35.K w x cs) : k35.M w base okp x cs := by
  obtain rfl := k35_open h
  exact k35_mkM _ _ _ x
set_option maxHeartbeats 8000000 in
set_option maxRecDepth 100000 in
theorem poolMore_walk (a0 : Option Addr) (len0 cap0 : Nat) (l0 : List S35) (at_ n : Int) (w : World) (hr0 : Kd.C k35 w a0 l0.length l0) (hn0 : l0.length = len0) (hc0 : len0 ≤ cap0) (hm0 : len0 ≤ 1048576) (hs0 : ∀ c ∈ l0, c.f1.size ≤ 1048576) (hi0 : Ints l0) (wa : (Lit.int .i64 at_).wf = true) (wn : (Lit.int .i64 n).wf = true) (hT : Tabs w) (hRd : Rds w) (hP : Pow w) :
    Calls Tryd.prog 4 #[.slice a0 len0 cap0, .int .i64 at_, .int .i64 n] w fun e w' => e = .returned (.bool true) ∧ Below w.heap.size w w' := by
  subst hn0
  have HT := Aside0.mk hT
  have HRD := Aside0.mk hRd
  have HPW := Aside0.mk hP
  have HR := Aside0.mk hr0
  have HC := Aside0.mk hc0
  have HM := Aside0.mk hm0
  have HS := Aside0.mk (tiny_of hs0)
  have HA := Aside0.mk (bounds_i64 wa)
  have HNN := Aside0.mk (bounds_i64 wn)
  clear hT hRd hr0 hc0 hm0 hs0 hi0 wa wn hP
  by_cases hk : checkL l0 = 0
  · have HK := Aside0.mk hk
    by_cases hgt : 4000 < l0.length
    · have q1 : decide ((4000 : Int) < (l0.length : Int)) = true := decide_eq_true (by omega)
      have q2 : (4000 : Int) < (l0.length : Int) := by omega
      go_enter Tryd.func4, Tryd.ntmps4
      go_wp2_with fail
      refine (works_calls w HT.out HRD.out).mono ?_
      rintro y w1 ⟨rfl, hb⟩
      have HB1 := Aside0.mk hb
      clear hb
      have hc2 := check_calls w1 (HT.out.below HB1.out) HS.out.small (Kd.C_below HR.out HB1.out) rfl HC.out (by have := HM.out; omega)
      rw [HK.out] at hc2
      have HQ2 := Aside0.mk hc2
      clear hc2
      go_wp2_with fail
      refine HQ2.out.mono ?_
      rintro y w2 ⟨rfl, hb⟩
      have HB2 := Aside0.mk (below_step HB1.out hb)
      clear hb HQ2
      go_wp2
      go_ret
      exact ⟨rfl, HB2.out⟩
    · have q1 : decide ((4000 : Int) < (l0.length : Int)) = false := decide_eq_false (by omega)
      have q2 : ¬ (4000 : Int) < (l0.length : Int) := by omega
      obtain ⟨hlp, -, hf, hz⟩ := checkL_ok hk
      have HB0 := Aside0.mk (show (([] : List S35).length + l0.length) * 56 ≤ 140737488355328 by simp; omega)
      have HBL := Aside0.mk (show (l0.length + 2) * 56 ≤ 140737488355328 by omega)
      have hl1 : ((l0.length : Int) + 1) ≤ 4001 := by omega
      obtain ⟨i, hi⟩ : ∃ i, at_ % (l0.length : Int) = i := ⟨_, rfl⟩
      have hi0 : 0 ≤ i := by rw [← hi]; exact Int.emod_nonneg _ (by omega)
      have hi1 : i < l0.length := by rw [← hi]; exact Int.emod_lt_of_pos _ (by omega)
      have HII := Aside0.mk hi
      obtain ⟨m, hm⟩ : ∃ m, l0 ++ two35 n = m := ⟨_, rfl⟩
      have HZ := Aside0.mk hm
      have HML := Aside0.mk (show m.length ≤ 4002 by rw [← hm, List.length_append]; show l0.length + 2 ≤ 4002; omega)
      have HCM := Aside0.mk (hm ▸ check_more (n := n) hk (by omega))
      have HSM := Aside0.mk (hm ▸ tiny_more HNN.out.1 HNN.out.2 HS.out : Tiny m)
      have HNM := Aside0.mk (hm ▸ num_more l0 n)
      obtain ⟨t1, e1, h1⟩ : ∃ t e, textP l0 i = (t, e) := ⟨_, _, rfl⟩
      have H1 := Aside0.mk h1
      have H1M := Aside0.mk (show textP m i = (t1, e1) by rw [← hm, textP_more hi1, h1])
      obtain ⟨t2, e2, h2⟩ : ∃ t e, classP l0 i = (t, e) := ⟨_, _, rfl⟩
      have H2 := Aside0.mk h2
      have H2M := Aside0.mk (show classP m i = (t2, e2) by rw [← hm, classP_more hf hi1, h2])
      have HPOS := Aside0.mk hlp
      clear hm h1 h2 hf hz hi hi0 hi1 hk hgt hlp
      go_enter Tryd.func4, Tryd.ntmps4
      go_wp2_with fail
      refine (works_calls w HT.out HRD.out).mono ?_
      rintro y w1 ⟨rfl, hb⟩
      have HB1 := Aside0.mk hb
      clear hb
      have hc2 := check_calls w1 (HT.out.below HB1.out) HS.out.small (Kd.C_below HR.out HB1.out) rfl HC.out (by have := HM.out; omega)
      rw [HK.out] at hc2
      have HQ2 := Aside0.mk hc2
      clear hc2
      go_wp2_with fail
      refine HQ2.out.mono ?_
      rintro y w2 ⟨rfl, hb⟩
      have HB2 := Aside0.mk (below_step HB1.out hb)
      clear hb HQ2
      go_wp2_with (at_builtin; go_loud (refine Kd.R_append_rows k35 (w0 := w) w.heap.size rfl _ _ 24 35 (.agg #[.int .i64 0, .string ⟨#[]⟩, .int .i64 0, .int .i64 0, .int .i64 0, .int .i64 0]) 56 rfl Tryd.underlying24 info35 rfl sz35 by56 (.slice none 0 0) [] l0 a0 l0.length cap0 (fun _ => True) (fun _ => False) rfl rfl (Kd.R_nil _ _ _ _ _) (Kd.C_below HR.out HB2.out) (fun x cs h => k35_M2 _ _ x cs h) (fun _ h => h.elim) (fun _ _ => trivial) HB2.out (below_size HB2.out) HB0.out ?_); intro v3 w3 ho hb hg hat; rw [List.nil_append] at ho; have HO3 := Aside0.mk ho; have HB3 := Aside0.mk hb; clear ho hb hg hat)
      refine (itoa_c n w3 HNN.out.1 HNN.out.2 (HPW.out.below HB3.out)).mono ?_
      rintro y w4 ⟨rfl, hb⟩
      have HO4 := Aside0.mk (Kd.R_below HO3.out hb)
      have HB4 := Aside0.mk (below_step HB3.out hb)
      have HLIT := Aside0.mk (show Kd.C k35 (w4.alloc (.cells #[.int .i64 1, .string (numeral n), .int .i64 0, .int .i64 0, .int .i64 0, .int .i64 0, .int .i64 3, .string ⟨#[]⟩, .int .i64 n, .int .i64 0, .int .i64 0, .int .i64 0] 35)) (some ⟨w4.heap.size, 0, none⟩) 2 (two35 n) from lit_C35 (two35 n) w4 _ rfl (by show 2 ≤ 9223372036854775807; omega))
      have HO5 := Aside0.mk (fun o => Kd.R_below HO4.out (below_alloc (Below.refl w4.heap.size w4) o))
      have HB5 := Aside0.mk (fun o => below_alloc HB4.out o)
      have HW5 := Aside0.mk (fun (o : Obj) => show w.heap.size ≤ (w4.alloc o).heap.size by rw [World.size_alloc]; have := below_size HB4.out; omega)
      clear hb HO3 HB3 HO4
      go_wp2_with (at_builtin; go_loud (refine Kd.R_append_rows k35 (w0 := w) w.heap.size rfl _ _ 24 35 (.agg #[.int .i64 0, .string ⟨#[]⟩, .int .i64 0, .int .i64 0, .int .i64 0, .int .i64 0]) 56 rfl Tryd.underlying24 info35 rfl sz35 by56 v3 l0 (two35 n) (some ⟨w4.heap.size, 0, none⟩) 2 2 (fun _ => True) (fun _ => False) rfl rfl (HO5.out _) HLIT.out (fun x cs h => k35_M2 _ _ x cs h) (fun _ h => h.elim) (fun _ _ => trivial) (HB5.out _) (HW5.out _) HBL.out ?_); intro v5 w5 ho hb hg hat; rw [HZ.out] at ho; obtain ⟨A5, c5, rfl, hl5, hC5⟩ := Kd.R_reads ho; have HL5 := Aside0.mk hl5; have HC5 := Aside0.mk hC5; have HB6 := Aside0.mk hb; clear ho hb hg hat hl5 hC5)
      refine (R0_Bring.calls at_ l0.length i w5 (by rw [Bring_f at_ l0.length HA.out (by have := HPOS.out; omega) (by have := HM.out; omega), HII.out])).mono ?_
      rintro y w6 ⟨rfl, hd⟩
      have HC6 := Aside0.mk (Kd.C_below HC5.out hd.below)
      have HB7 := Aside0.mk (below_step HB6.out hd.below)
      clear hd HC5 HB6
      go_wp2_with fail
      refine (text_c H1.out (Kd.C_below HR.out HB7.out) rfl HC.out).mono ?_
      rintro y w7 ⟨rfl, hb⟩
      have HC7 := Aside0.mk (Kd.C_below HC6.out hb)
      have HB8 := Aside0.mk (below_step HB7.out hb)
      clear hb HC6 HB7
      go_wp2_with fail
      refine (text_c H1M.out HC7.out rfl HL5.out).mono ?_
      rintro y w8 ⟨rfl, hb⟩
      have HC8 := Aside0.mk (Kd.C_below HC7.out hb)
      have HB9 := Aside0.mk (below_step HB8.out hb)
      clear hb HC7 HB8
      go_wp2_with fail
      refine (class_c H2.out (Kd.C_below HR.out HB9.out) rfl HC.out).mono ?_
      rintro y w9 ⟨rfl, hb⟩
      have HC9 := Aside0.mk (Kd.C_below HC8.out hb)
      have HB10 := Aside0.mk (below_step HB9.out hb)
      clear hb HC8 HB9
      go_wp2_with fail
      refine (class_c H2M.out HC9.out rfl HL5.out).mono ?_
      rintro y w10 ⟨rfl, hb⟩
      have HC10 := Aside0.mk (Kd.C_below HC9.out hb)
      have HB11 := Aside0.mk (below_step HB10.out hb)
      clear hb HC9 HB10
      go_wp2_with fail
      refine (num_c HNM.out HC10.out rfl HL5.out).mono ?_
      rintro y w11 ⟨rfl, hb⟩
      have HC11 := Aside0.mk (Kd.C_below HC10.out hb)
      have HB12 := Aside0.mk (below_step HB11.out hb)
      clear hb HC10 HB11
      have hc12 := check_calls w11 (HT.out.below HB12.out) HSM.out.small HC11.out rfl HL5.out (by have := HML.out; omega)
      rw [HCM.out] at hc12
      have HQ12 := Aside0.mk hc12
      clear hc12
      go_wp2_with fail
      refine HQ12.out.mono ?_
      rintro y w12 ⟨rfl, hb⟩
      have HB13 := Aside0.mk (below_step HB12.out hb)
      clear hb HQ12
      go_wp2
      go_ret
      exact ⟨rfl, HB13.out⟩
  · obtain ⟨ck, hck⟩ : ∃ ck, checkL l0 = ck := ⟨_, rfl⟩
    have HK := Aside0.mk hck
    have q1 : (ck != 0) = true := bne_iff_ne.2 (hck ▸ hk)
    clear hk hck
    go_enter Tryd.func4, Tryd.ntmps4
    go_wp2_with fail
    refine (works_calls w HT.out HRD.out).mono ?_
    rintro y w1 ⟨rfl, hb⟩
    have HB1 := Aside0.mk hb
    clear hb
    have hc2 := check_calls w1 (HT.out.below HB1.out) HS.out.small (Kd.C_below HR.out HB1.out) rfl HC.out (by have := HM.out; omega)
    rw [HK.out] at hc2
    have HQ2 := Aside0.mk hc2
    clear hc2
    go_wp2_with fail
    refine HQ2.out.mono ?_
    rintro y w2 ⟨rfl, hb⟩
    have HB2 := Aside0.mk (below_step HB1.out hb)
    clear hb HQ2
    go_wp2
    go_ret
    exact ⟨rfl, HB2.out⟩
end Go.Proofs.YtkhigagkgpfpfaaDoor.Ext

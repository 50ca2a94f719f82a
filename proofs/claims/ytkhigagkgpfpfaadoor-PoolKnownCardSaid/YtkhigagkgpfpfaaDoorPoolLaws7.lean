/- The law PoolKnown, walked: it answers true, above the memory that was there. Conditions: where the tables hold what their text lays (Tabs, Rds). -/
import Derived.Test.YtkhigagkgpfpfaaDoorPoolKnownA
set_option linter.unusedVariables false
set_option linter.unusedSimpArgs false
namespace Go.Proofs.YtkhigagkgpfpfaaDoor.Ext
open Go.RowKit Go.Lib Go.Proofs.YtkhigagkgpfpfaaDoorW.PrintWords Go.Proofs.YtkhigagkgpfpfaaDoorW.PrintLast Go.Proofs.YtkhigagkgpfpfaaDoorW.PrintMore Go.Proofs.YtkhigagkgpfpfaaDoor.PLeb
attribute [local go_sem] max2_int min2_int max_two min_two max_three min_three max_four min_four

set_option maxHeartbeats 32000000 in
set_option maxRecDepth 100000 in
theorem poolKnown_walk (w : World) (hT : Tabs w) (hRd : Rds w) :
    Calls Tryd.prog 10 #[] w fun e w' => e = .returned (.bool true) ∧ Below w.heap.size w w' := by
  have hu35 := Tryd.underlying35
  have HT := Aside0.mk hT
  have HRD := Aside0.mk hRd
  have HB0 := Aside0.mk (Below.refl w.heap.size w)
  clear hT hRd
  obtain ⟨L0, hL0⟩ : ∃ L0, longN 4096 = L0 := ⟨_, rfl⟩
  have HL0 := Aside0.mk hL0
  have HLN0 := Aside0.mk (show L0.length = 4096 by rw [← hL0, longN_len])
  obtain ⟨L, hL⟩ : ∃ L, longL = L := ⟨_, rfl⟩
  have HSET := Aside0.mk (show L0.set (0 : Int).toNat zero35 = L by rw [← hL0, ← hL]; rfl)
  have HNL := Aside0.mk (show L.length = 4096 by rw [← hL, longL_len])
  have HCK := Aside0.mk (show checkL L = 0 by rw [← hL, longL_check])
  have HS1 := Aside0.mk (show ∀ c ∈ L, c.f1.size ≤ 1048576 by rw [← hL]; exact longL_small)
  have HIN := Aside0.mk (show Ints L by rw [← hL]; exact longL_ints)
  have HN3 := Aside0.mk (show numP L 5 3 = (0, 40) by rw [← hL, long_num3])
  have HN1 := Aside0.mk (show numP L 5 1 = (0, 40) by rw [← hL, long_num1])
  have HN2 := Aside0.mk (show numP L 5 2 = (5, 0) by rw [← hL, long_num2])
  have HRF := Aside0.mk (show refP L 5 2 = (E0, E0, E0, 40) by rw [← hL, long_ref])
  obtain ⟨M, hM⟩ : ∃ M, L ++ [⟨1, ⟨#[]⟩, 0, 0, 0, 0⟩] = M := ⟨_, rfl⟩
  have HM := Aside0.mk hM
  have HMC := Aside0.mk (show checkL M = 5 by rw [← hM, ← hL, long_more])
  have HML := Aside0.mk (show M.length ≤ 4097 by rw [← hM, List.length_append, HNL.out]; decide)
  have HMS := Aside0.mk (show Small M by
    rw [← hM]
    intro c hc
    rcases List.mem_append.1 hc with hc | hc
    · exact Nat.le_trans (HS1.out c hc) (by decide)
    · rw [List.mem_singleton] at hc; subst hc; show (0 : Nat) ≤ _; omega)
  have HONE := Aside0.mk (show ∀ q ∈ [Value.int .i64 0, .string ⟨#[]⟩, .int .i64 0, .int .i64 0, .int .i64 0, .int .i64 0], q.oneCell' = true from fun q hq => by
    simp only [List.mem_cons, List.mem_nil_iff, or_false] at hq
    rcases hq with rfl | rfl | rfl | rfl | rfl | rfl <;> rfl)
  clear hL0 hL hM
  go_enter Tryd.func10, Tryd.ntmps10
  go_wp2
  go_loopw [2, 1] (fun i v wr => ∃ (k : Nat) (vv : Value), i = .int .i64 (k : Int) ∧ v = vv ∧ k ≤ 4096 ∧ Aside0 (Kd.R k35 35 wr w.heap.size (fun _ => True) vv (longN k)) ∧ Aside0 (Below w.heap.size w wr)) (fun i _ _ => 4096 - (RowKit.intOf i).toNat)
  case atStart => exact ⟨0, _, rfl, rfl, by omega, ⟨Kd.R_nil _ _ _ _ _⟩, HB0⟩
  case round =>
    obtain ⟨k, vv, rfl, hv', hk, HO, HB⟩ := hrel
    have hv'' := hv'.symm
    subst hv''
    by_cases hlt : k < 4096
    · have hltz : decide ((k : Int) < 4096) = true := decide_eq_true (by omega)
      have hltz2 : (k : Int) < 4096 := by omega
      have hk1 : ((k : Int) + 1) ≤ 4097 := by omega
      have HLL := Aside0.mk (show ((longN k).length + 1) * 56 ≤ 140737488355328 by rw [longN_len]; omega)
      have HSUC := Aside0.mk (longN_succ k)
      go_wp2_with (at_builtin; go_loud (refine Kd.R_append k35 (w0 := w) w.heap.size rfl (.tmp 32) (.tmp 35) 24 35 (.agg #[.int .i64 0, .string ⟨#[]⟩, .int .i64 0, .int .i64 0, .int .i64 0, .int .i64 0]) 56 rfl Tryd.underlying24 info35 rfl sz35 by56 vv (longN k) ⟨2, ⟨#[]⟩, (k : Int), 0, 0, 0⟩ [.int .i64 2, .string ⟨#[]⟩, .int .i64 (k : Int), .int .i64 0, .int .i64 0, .int .i64 0] (fun _ => True) (fun _ => False) rfl ?aX ?aP (fun _ hk => hk.elim) ?aF ?aO ?aB ?aS ?aL ?_); (case aX => rfl); (case aP => exact k35_mkM _ _ _ ⟨2, ⟨#[]⟩, (k : Int), 0, 0, 0⟩); (case aF => exact fun _ _ => trivial); (case aO => exact HO.out); (case aB => exact HB.out); (case aS => exact below_size HB.out); (case aL => exact HLL.out); intro v1 w5 ho hb hg hat; rw [HSUC.out] at ho; have HO5 := Aside0.mk ho; have HB5 := Aside0.mk hb; clear ho hb hg hat)
      go_wp2
      go_roundw
      case rel => exact ⟨k + 1, v1, by go_num, rfl, by omega, HO5, HB5⟩
      case measure => simp [RowKit.intOf]; omega
    · have hltz : decide ((k : Int) < 4096) = false := decide_eq_false (by omega)
      have hltz2 : ¬ (k : Int) < 4096 := by omega
      have hk4 : k = 4096 := by omega
      subst hk4
      rw [HL0.out] at HO
      obtain ⟨inn, hown⟩ := Kd.R_own HO.out
      rw [HLN0.out] at hown
      rcases hown.2 with ⟨-, hn0⟩ | ⟨g, cap, cur, hvv, hg0, hh, -⟩
      · exact absurd hn0 (by decide)
      subst hvv
      obtain ⟨cc, hcl, -, hcc, -⟩ := Kd.R_elem HO.out zero35 0 (by omega) (by omega)
      have HCL := Aside0.mk hcl
      have HCC := Aside0.mk hcc
      have HMM := Aside0.mk (show k35.M wr w.heap.size (fun _ => False) zero35 (cc.take 0 ++ [Value.int .i64 0, .string ⟨#[]⟩, .int .i64 0, .int .i64 0, .int .i64 0, .int .i64 0] ++ cc.drop (0 + [Value.int .i64 0, .string ⟨#[]⟩, .int .i64 0, .int .i64 0, .int .i64 0, .int .i64 0].length)) by
        rw [List.drop_eq_nil_of_le (by rw [hcl]; decide), List.take_zero, List.nil_append, List.append_nil]
        exact k35_mkM _ _ _ zero35)
      clear hown hg0 hh hcl hcc hltz hltz2 hlt hk HB0
      go_wp2_with ((with_reducible refine gate_store (t := 35) (p := 39) rfl ?_); go_loud (refine Kd.R_store k35 (w0 := w) w.heap.size rfl rfl 35 (.tmp 39) (.tmp 38) rfl 35 (g := g) (n := 4096) (cap := cap) (o' := 0) 0 0 L0 zero35 (.agg #[.int .i64 0, .string ⟨#[]⟩, .int .i64 0, .int .i64 0, .int .i64 0, .int .i64 0]) [.int .i64 0, .string ⟨#[]⟩, .int .i64 0, .int .i64 0, .int .i64 0, .int .i64 0] cc (fun _ => True) (fun _ => False) rfl rfl rfl rfl ?st HONE.out HO.out (Int.le_refl _) ?si HCL.out HCC.out ?sj HMM.out (fun _ h => h.elim) HB.out ?_); (case st => rfl); (case si => decide); (case sj => decide); intro w5 ho hb hg; rw [HSET.out] at ho; have HO5 := Aside0.mk ho; have HB5 := Aside0.mk hb; clear ho hb hg)
      have HCAP := Aside0.mk (Kd.R_reads' HO5.out).2.1
      go_wp2_with fail
      refine (isLit_calls (l := fullL) (bs := [6, 1, 0, 1, 8, 192, 128, 237, 160, 189, 237, 184, 128, 4, 1, 6, 3, 2, 1, 5, 3, 1, 1]) _ (HT.out.below (below_alloc (below_alloc HB5.out _) _)) (HRD.out.from (below_alloc (below_alloc HB5.out _) _) HRD.out.lt) full_parse (by decide) (Kd.C_alloc (lit_C35 fullL w5 _ rfl (by decide)) _) rfl (Nat.le_refl _) (lit_C' [6, 1, 0, 1, 8, 192, 128, 237, 160, 189, 237, 184, 128, 4, 1, 6, 3, 2, 1, 5, 3, 1, 1] (w5.alloc _) (World.size_alloc ..) _ rfl (by decide)) rfl (Nat.le_refl _)).mono ?_
      rintro y w6 ⟨rfl, hb⟩
      have HB6 := Aside0.mk (below_step (below_alloc (below_alloc HB5.out _) _) hb)
      have HO6 := Aside0.mk (Kd.R_below (Kd.R_below (Kd.R_below HO5.out (below_alloc (Below.refl _ _) _)) (below_alloc (Below.refl _ _) _)) hb)
      clear hb HB5 HO5
      go_wp2_with fail
      refine (isLit_calls (l := [zero35]) (bs := [1]) _ (HT.out.below (below_alloc (below_alloc HB6.out _) _)) (HRD.out.from (below_alloc (below_alloc HB6.out _) _) HRD.out.lt) one1_parse (by decide) (Kd.C_alloc (lit_C35 [zero35] w6 _ rfl (by decide)) _) rfl (Nat.le_refl _) (lit_C' [1] (w6.alloc _) (World.size_alloc ..) _ rfl (by decide)) rfl (Nat.le_refl _)).mono ?_
      rintro y w7 ⟨rfl, hb⟩
      have HB7 := Aside0.mk (below_step (below_alloc (below_alloc HB6.out _) _) hb)
      have HO7 := Aside0.mk (Kd.R_below (Kd.R_below (Kd.R_below HO6.out (below_alloc (Below.refl _ _) _)) (below_alloc (Below.refl _ _) _)) hb)
      clear hb HB6 HO6
      have hq := check_calls w7 (HT.out.below HB7.out) (tiny_of HS1.out).small (Kd.R_reads' HO7.out).2.2 HNL.out HCAP.out (by decide)
      rw [HCK.out] at hq
      have HQ := Aside0.mk hq
      clear hq
      go_wp2_with fail
      refine (HQ.out).mono ?_
      rintro y w8 ⟨rfl, hb⟩
      have HB8 := Aside0.mk (below_step HB7.out hb)
      have HO8 := Aside0.mk (Kd.R_below HO7.out hb)
      clear hb HB7 HO7
      clear HQ
      go_wp2_with fail
      refine (poolBack_walk0 (some ⟨g, 0, none⟩) 4096 cap L [] none 0 w8 (Kd.R_reads' HO8.out).2.2 HNL.out HCAP.out (by decide) HS1.out HIN.out (fun x hx => by cases hx) (c_nil _) (Nat.le_refl _) (by decide) (HT.out.below HB8.out) (HRD.out.from HB8.out HRD.out.lt)).mono ?_
      rintro y w9 ⟨rfl, hb⟩
      have HB9 := Aside0.mk (below_step HB8.out hb)
      have HO9 := Aside0.mk (Kd.R_below HO8.out hb)
      clear hb HB8 HO8
      go_wp2
      go_loopw [5] (fun i wr => ∃ j : Nat, i = .int .i64 (j : Int) ∧ j ≤ 18 ∧ Aside0 (BadRow wr (w9.heap.size + 17)) ∧ Aside0 (Kd.R k35 35 wr w.heap.size (fun _ => True) (.slice (some ⟨g, 0, none⟩) 4096 cap) L) ∧ Aside0 (Below w.heap.size w wr)) (fun i _ => 18 - (RowKit.intOf i).toNat)
      case atStart => exact ⟨0, rfl, by omega, ⟨bad_row w9⟩, ⟨Kd.R_below HO9.out (bad_below w9)⟩, ⟨below_step HB9.out (bad_below w9)⟩⟩
      case round =>
        obtain ⟨j, rfl, hj, HBD, HOq, HBq⟩ := hrel
        clear HO9 HB9
        generalize w9.heap.size + 17 = G at *
        by_cases hlt : j < 18
        · have hltz : decide ((j : Int) < 18) = true := decide_eq_true (by omega)
          have hltz2 : (j : Int) < 18 := by omega
          have hj1 : ((j : Int) + 1) ≤ 19 := by omega
          obtain ⟨A, n, l, hcell, hC, hn, hn4, h40, hty⟩ := HBD.out j hlt
          have HLN := Aside0.mk hn
          have HN4 := Aside0.mk hn4
          have H40 := Aside0.mk h40
          have HTY := Aside0.mk hty
          have hq := bytes_bad wr (HT.out.below HBq.out) hty.small hC hn (Nat.le_refl _) (by omega) (by rw [h40]; decide)
          rw [h40] at hq
          have HQ := Aside0.mk hq
          clear hq hC hn hn4 h40 hty
          go_wp2_with fail
          refine HQ.out.mono ?_
          rintro y w2 ⟨rfl, hb⟩
          have HBD2 := Aside0.mk (HBD.out.below hb)
          have HO2 := Aside0.mk (Kd.R_below HOq.out hb)
          have HB2 := Aside0.mk (below_step HBq.out hb)
          clear hb HQ hcell
          obtain ⟨A2, n2, l2, hcell, hC, hn, hn4, h40, hty⟩ := HBD2.out j hlt
          have hq := check_calls w2 (HT.out.below HB2.out) hty.small hC hn (Nat.le_refl _) (by omega)
          rw [h40] at hq
          have HQ := Aside0.mk hq
          clear hq hC hn hn4 h40 hty
          go_wp2_with fail
          refine HQ.out.mono ?_
          rintro y w3 ⟨rfl, hb⟩
          have HBD3 := Aside0.mk (HBD2.out.below hb)
          have HO3 := Aside0.mk (Kd.R_below HO2.out hb)
          have HB3 := Aside0.mk (below_step HB2.out hb)
          clear hb HQ hcell
          go_wp2
          go_roundw
          case rel => exact ⟨j + 1, by go_num, by omega, HBD3, HO3, HB3⟩
          case measure => simp [RowKit.intOf]; omega
        · have hltz : decide ((j : Int) < 18) = false := decide_eq_false (by omega)
          have hltz2 : ¬ (j : Int) < 18 := by omega
          have HB20 := Aside0.mk HBq.out
          have HO20 := Aside0.mk HOq.out
          clear HBq HOq HBD
          generalize wr = w20 at *
          go_wp2_with fail
          refine (failsLit_calls (b := []) (want := 3) _ (HT.out.below HB20.out) (HRD.out.from HB20.out HRD.out.lt) (by decide +kernel) (c_nil _) rfl (Nat.le_refl _)).mono ?_
          rintro y w21 ⟨rfl, hb⟩
          have HB21 := Aside0.mk (below_step HB20.out hb)
          have HO21 := Aside0.mk (Kd.R_below HO20.out hb)
          clear hb HB20 HO20
          go_wp2_with fail
          refine (failsLit_calls (b := [2]) (want := 3) _ (HT.out.below (below_alloc HB21.out _)) (HRD.out.from (below_alloc HB21.out _) HRD.out.lt) (by decide +kernel) (lit_C [2] 1 rfl w21 _ rfl (0, 0) (by decide)) rfl (Nat.le_refl _)).mono ?_
          rintro y w22 ⟨rfl, hb⟩
          have HB22 := Aside0.mk (below_step (below_alloc HB21.out _) hb)
          have HO22 := Aside0.mk (Kd.R_below (Kd.R_below HO21.out (below_alloc (Below.refl _ _) _)) hb)
          clear hb HB21 HO21
          go_wp2_with fail
          refine (failsLit_calls (b := [2, 1]) (want := 3) _ (HT.out.below (below_alloc HB22.out _)) (HRD.out.from (below_alloc HB22.out _) HRD.out.lt) (by decide +kernel) (lit_C [2, 1] 2 rfl w22 _ rfl (0, 0) (by decide)) rfl (Nat.le_refl _)).mono ?_
          rintro y w23 ⟨rfl, hb⟩
          have HB23 := Aside0.mk (below_step (below_alloc HB22.out _) hb)
          have HO23 := Aside0.mk (Kd.R_below (Kd.R_below HO22.out (below_alloc (Below.refl _ _) _)) hb)
          clear hb HB22 HO22
          go_wp2_with fail
          refine (failsLit_calls (b := [2, 1, 1]) (want := 3) _ (HT.out.below (below_alloc HB23.out _)) (HRD.out.from (below_alloc HB23.out _) HRD.out.lt) (by decide +kernel) (lit_C [2, 1, 1] 3 rfl w23 _ rfl (0, 0) (by decide)) rfl (Nat.le_refl _)).mono ?_
          rintro y w24 ⟨rfl, hb⟩
          have HB24 := Aside0.mk (below_step (below_alloc HB23.out _) hb)
          have HO24 := Aside0.mk (Kd.R_below (Kd.R_below HO23.out (below_alloc (Below.refl _ _) _)) hb)
          clear hb HB23 HO23
          go_wp2_with fail
          refine (failsLit_calls (b := [2, 5, 1, 1]) (want := 3) _ (HT.out.below (below_alloc HB24.out _)) (HRD.out.from (below_alloc HB24.out _) HRD.out.lt) (by decide +kernel) (lit_C [2, 5, 1, 1] 4 rfl w24 _ rfl (0, 0) (by decide)) rfl (Nat.le_refl _)).mono ?_
          rintro y w25 ⟨rfl, hb⟩
          have HB25 := Aside0.mk (below_step (below_alloc HB24.out _) hb)
          have HO25 := Aside0.mk (Kd.R_below (Kd.R_below HO24.out (below_alloc (Below.refl _ _) _)) hb)
          clear hb HB24 HO24
          go_wp2_with fail
          refine (failsLit_calls (b := [128, 0]) (want := 4) _ (HT.out.below (below_alloc HB25.out _)) (HRD.out.from (below_alloc HB25.out _) HRD.out.lt) (by decide +kernel) (lit_C [128, 0] 2 rfl w25 _ rfl (0, 0) (by decide)) rfl (Nat.le_refl _)).mono ?_
          rintro y w26 ⟨rfl, hb⟩
          have HB26 := Aside0.mk (below_step (below_alloc HB25.out _) hb)
          have HO26 := Aside0.mk (Kd.R_below (Kd.R_below HO25.out (below_alloc (Below.refl _ _) _)) hb)
          clear hb HB25 HO25
          go_wp2_with fail
          refine (failsLit_calls (b := [2, 1, 128, 0]) (want := 4) _ (HT.out.below (below_alloc HB26.out _)) (HRD.out.from (below_alloc HB26.out _) HRD.out.lt) (by decide +kernel) (lit_C [2, 1, 128, 0] 4 rfl w26 _ rfl (0, 0) (by decide)) rfl (Nat.le_refl _)).mono ?_
          rintro y w27 ⟨rfl, hb⟩
          have HB27 := Aside0.mk (below_step (below_alloc HB26.out _) hb)
          have HO27 := Aside0.mk (Kd.R_below (Kd.R_below HO26.out (below_alloc (Below.refl _ _) _)) hb)
          clear hb HB26 HO26
          go_wp2_with fail
          refine (failsLit_calls (b := [2, 2, 255, 127]) (want := 4) _ (HT.out.below (below_alloc HB27.out _)) (HRD.out.from (below_alloc HB27.out _) HRD.out.lt) (by decide +kernel) (lit_C [2, 2, 255, 127] 4 rfl w27 _ rfl (0, 0) (by decide)) rfl (Nat.le_refl _)).mono ?_
          rintro y w28 ⟨rfl, hb⟩
          have HB28 := Aside0.mk (below_step (below_alloc HB27.out _) hb)
          have HO28 := Aside0.mk (Kd.R_below (Kd.R_below HO27.out (below_alloc (Below.refl _ _) _)) hb)
          clear hb HB27 HO27
          go_wp2_with fail
          refine (failsLit_calls (b := [2, 0]) (want := 4) _ (HT.out.below (below_alloc HB28.out _)) (HRD.out.from (below_alloc HB28.out _) HRD.out.lt) (by decide +kernel) (lit_C [2, 0] 2 rfl w28 _ rfl (0, 0) (by decide)) rfl (Nat.le_refl _)).mono ?_
          rintro y w29 ⟨rfl, hb⟩
          have HB29 := Aside0.mk (below_step (below_alloc HB28.out _) hb)
          have HO29 := Aside0.mk (Kd.R_below (Kd.R_below HO28.out (below_alloc (Below.refl _ _) _)) hb)
          clear hb HB28 HO28
          go_wp2_with fail
          refine (failsLit_calls (b := [129, 32]) (want := 5) _ (HT.out.below (below_alloc HB29.out _)) (HRD.out.from (below_alloc HB29.out _) HRD.out.lt) (by decide +kernel) (lit_C [129, 32] 2 rfl w29 _ rfl (0, 0) (by decide)) rfl (Nat.le_refl _)).mono ?_
          rintro y w30 ⟨rfl, hb⟩
          have HB30 := Aside0.mk (below_step (below_alloc HB29.out _) hb)
          have HO30 := Aside0.mk (Kd.R_below (Kd.R_below HO29.out (below_alloc (Below.refl _ _) _)) hb)
          clear hb HB29 HO29
          go_wp2_with fail
          refine (failsLit_calls (b := [128, 32]) (want := 3) _ (HT.out.below (below_alloc HB30.out _)) (HRD.out.from (below_alloc HB30.out _) HRD.out.lt) (by decide +kernel) (lit_C [128, 32] 2 rfl w30 _ rfl (0, 0) (by decide)) rfl (Nat.le_refl _)).mono ?_
          rintro y w31 ⟨rfl, hb⟩
          have HB31 := Aside0.mk (below_step (below_alloc HB30.out _) hb)
          have HO31 := Aside0.mk (Kd.R_below (Kd.R_below HO30.out (below_alloc (Below.refl _ _) _)) hb)
          clear hb HB30 HO30
          go_wp2_with fail
          refine (failsLit_calls (b := [2, 1, 1, 0]) (want := 20) _ (HT.out.below (below_alloc HB31.out _)) (HRD.out.from (below_alloc HB31.out _) HRD.out.lt) (by decide +kernel) (lit_C [2, 1, 1, 0] 4 rfl w31 _ rfl (0, 0) (by decide)) rfl (Nat.le_refl _)).mono ?_
          rintro y w32 ⟨rfl, hb⟩
          have HB32 := Aside0.mk (below_step (below_alloc HB31.out _) hb)
          have HO32 := Aside0.mk (Kd.R_below (Kd.R_below HO31.out (below_alloc (Below.refl _ _) _)) hb)
          clear hb HB31 HO31
          go_wp2_with fail
          refine (failsLit_calls (b := [2, 2, 128, 128, 128, 128, 8]) (want := 40) _ (HT.out.below (below_alloc HB32.out _)) (HRD.out.from (below_alloc HB32.out _) HRD.out.lt) (by decide +kernel) (lit_C [2, 2, 128, 128, 128, 128, 8] 7 rfl w32 _ rfl (0, 0) (by decide)) rfl (Nat.le_refl _)).mono ?_
          rintro y w33 ⟨rfl, hb⟩
          have HB33 := Aside0.mk (below_step (below_alloc HB32.out _) hb)
          have HO33 := Aside0.mk (Kd.R_below (Kd.R_below HO32.out (below_alloc (Below.refl _ _) _)) hb)
          clear hb HB32 HO32
          go_wp2_with fail
          refine (failsLit_calls (b := [3, 1, 1, 0, 9]) (want := 20) _ (HT.out.below (below_alloc HB33.out _)) (HRD.out.from (below_alloc HB33.out _) HRD.out.lt) (by decide +kernel) (lit_C [3, 1, 1, 0, 9] 5 rfl w33 _ rfl (0, 0) (by decide)) rfl (Nat.le_refl _)).mono ?_
          rintro y w34 ⟨rfl, hb⟩
          have HB34 := Aside0.mk (below_step (below_alloc HB33.out _) hb)
          have HO34 := Aside0.mk (Kd.R_below (Kd.R_below HO33.out (below_alloc (Below.refl _ _) _)) hb)
          clear hb HB33 HO33
          go_wp2_with fail
          refine (num_c HN3.out (Kd.R_reads' HO34.out).2.2 HNL.out HCAP.out).mono ?_
          rintro y w35 ⟨rfl, hb⟩
          have HB35 := Aside0.mk (below_step HB34.out hb)
          have HO35 := Aside0.mk (Kd.R_below HO34.out hb)
          clear hb HB34 HO34
          go_wp2_with fail
          refine (num_c HN1.out (Kd.R_reads' HO35.out).2.2 HNL.out HCAP.out).mono ?_
          rintro y w36 ⟨rfl, hb⟩
          have HB36 := Aside0.mk (below_step HB35.out hb)
          have HO36 := Aside0.mk (Kd.R_below HO35.out hb)
          clear hb HB35 HO35
          go_wp2_with fail
          refine (num_c HN2.out (Kd.R_reads' HO36.out).2.2 HNL.out HCAP.out).mono ?_
          rintro y w37 ⟨rfl, hb⟩
          have HB37 := Aside0.mk (below_step HB36.out hb)
          have HO37 := Aside0.mk (Kd.R_below HO36.out hb)
          clear hb HB36 HO36
          go_wp2_with fail
          refine (ref_c HRF.out (Kd.R_reads' HO37.out).2.2 HNL.out HCAP.out).mono ?_
          rintro y w38 ⟨rfl, hb⟩
          have HB38 := Aside0.mk (below_step HB37.out hb)
          have HO38 := Aside0.mk (Kd.R_below HO37.out hb)
          clear hb HB37 HO37
          go_wp2_with fail
          refine (class_c (l := [⟨0, ⟨#[]⟩, 0, 0, 0, 0⟩, ⟨4, ⟨#[]⟩, 0, 1, 0, 0⟩]) (t := E0) (e := 40) (by kernel_rfl) (lit_C35 [⟨0, ⟨#[]⟩, 0, 0, 0, 0⟩, ⟨4, ⟨#[]⟩, 0, 1, 0, 0⟩] w38 _ rfl (by decide)) rfl (Nat.le_refl _)).mono ?_
          rintro y w39 ⟨rfl, hb⟩
          have HB39 := Aside0.mk (below_step (below_alloc HB38.out _) hb)
          have HO39 := Aside0.mk (Kd.R_below (Kd.R_below HO38.out (below_alloc (Below.refl _ _) _)) hb)
          clear hb HB38 HO38
          go_wp2_with fail
          refine (ref_c (l := [⟨0, ⟨#[]⟩, 0, 0, 0, 0⟩, ⟨5, ⟨#[]⟩, 0, 1, 1, 1⟩]) (i := 1) (k := 5) (t := E0) (u := E0) (v := E0) (e := 40) (by kernel_rfl) (lit_C35 [⟨0, ⟨#[]⟩, 0, 0, 0, 0⟩, ⟨5, ⟨#[]⟩, 0, 1, 1, 1⟩] w39 _ rfl (by decide)) rfl (Nat.le_refl _)).mono ?_
          rintro y w40 ⟨rfl, hb⟩
          have HB40 := Aside0.mk (below_step (below_alloc HB39.out _) hb)
          have HO40 := Aside0.mk (Kd.R_below (Kd.R_below HO39.out (below_alloc (Below.refl _ _) _)) hb)
          clear hb HB39 HO39
          go_wp2_with fail
          refine (text_c (l := []) (t := E0) (e := 40) (by kernel_rfl) ⟨rfl, by decide, fun h => absurd h (by decide)⟩ rfl (Nat.le_refl _)).mono ?_
          rintro y w41 ⟨rfl, hb⟩
          have HB41 := Aside0.mk (below_step HB40.out hb)
          have HO41 := Aside0.mk (Kd.R_below HO40.out hb)
          clear hb HB40 HO40
          go_wp2_with fail
          refine (works_calls w41 (HT.out.below HB41.out) (HRD.out.from HB41.out HRD.out.lt)).mono ?_
          rintro y w42 ⟨rfl, hb⟩
          have HB42 := Aside0.mk (below_step HB41.out hb)
          have HO42 := Aside0.mk (Kd.R_below HO41.out hb)
          clear hb HB41 HO41
          have HLL := Aside0.mk (show (L.length + 1) * 56 ≤ 140737488355328 by rw [HNL.out]; decide)
          go_wp2_with (at_builtin; go_loud (refine gate_guard ?hw ?_); (case hw => kernel_rfl); go_loud (refine Kd.R_append k35 (w0 := w) w.heap.size rfl (.tmp 283) (.tmp 285) 24 35 (.agg #[.int .i64 0, .string ⟨#[]⟩, .int .i64 0, .int .i64 0, .int .i64 0, .int .i64 0]) 56 rfl Tryd.underlying24 info35 rfl sz35 by56 (.slice (some ⟨g, 0, none⟩) 4096 cap) L ⟨1, ⟨#[]⟩, 0, 0, 0, 0⟩ [.int .i64 1, .string ⟨#[]⟩, .int .i64 0, .int .i64 0, .int .i64 0, .int .i64 0] (fun _ => True) (fun _ => False) rfl ?aX ?aP (fun _ hk => hk.elim) ?aF ?aO ?aB ?aS ?aL ?_); (case aX => rfl); (case aP => exact k35_mkM _ _ _ ⟨1, ⟨#[]⟩, 0, 0, 0, 0⟩); (case aF => exact fun _ _ => trivial); (case aO => exact HO42.out); (case aB => exact HB42.out); (case aS => exact below_size HB42.out); (case aL => exact HLL.out); intro v1 wz ho hb hg hat; rw [HM.out] at ho; obtain ⟨Az, cz, rfl, hlz, hCz⟩ := Kd.R_reads ho; have HLZ := Aside0.mk hlz; have HCZ := Aside0.mk hCz; have HBZ := Aside0.mk hb; clear ho hb hg hat hlz hCz)
          have hq := check_calls wz (HT.out.below HBZ.out) HMS.out HCZ.out rfl HLZ.out (by have := HML.out; omega)
          rw [HMC.out] at hq
          have HQ := Aside0.mk hq
          clear hq
          refine HQ.out.mono ?_
          rintro y wy ⟨rfl, hb⟩
          have HBY := Aside0.mk (below_step HBZ.out hb)
          clear hb HQ
          go_wp2
          go_ret
          exact ⟨rfl, HBY.out⟩
end Go.Proofs.YtkhigagkgpfpfaaDoor.Ext

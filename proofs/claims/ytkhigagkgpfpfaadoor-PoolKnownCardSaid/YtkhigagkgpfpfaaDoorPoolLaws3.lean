/- The laws PoolBack, PoolAgain and PoolCut, walked. -/
import Derived.Test.YtkhigagkgpfpfaaDoorPoolWorks
import Derived.Test.YtkhigagkgpfpfaaDoorWGuard
set_option linter.unusedVariables false
set_option linter.unusedSimpArgs false
namespace Go.Proofs.YtkhigagkgpfpfaaDoor.Ext
open Go.RowKit Go.Lib Go.Proofs.YtkhigagkgpfpfaaDoorW.PrintWords Go.Proofs.YtkhigagkgpfpfaaDoorW.PrintLast Go.Proofs.YtkhigagkgpfpfaaDoorW.PrintMore Go.Proofs.YtkhigagkgpfpfaaDoor.PLeb
attribute [local go_sem] max2_int min2_int max_two min_two max_three min_three max_four min_four

theorem bytes_wf {l : List Int} (h : ∀ x ∈ l, (Lit.int .u8 x).wf = true) : Bytes l := fun x hx => bounds_u8 (h x hx)
theorem tiny_of {l : List S35} (h : ∀ c ∈ l, c.f1.size ≤ 1048576) : Tiny l := fun c hc => Nat.le_trans (h c hc) (by decide)
set_option maxHeartbeats 8000000 in
set_option maxRecDepth 100000 in
theorem poolCut_walk (a0 : Option Addr) (len0 cap0 : Nat) (l0 : List S35) (at_ : Int) (w : World) (hr0 : Kd.C k35 w a0 l0.length l0) (hn0 : l0.length = len0) (hc0 : len0 ≤ cap0) (hm0 : len0 ≤ 1048576) (hs0 : ∀ c ∈ l0, c.f1.size ≤ 1048576) (hi0 : Ints l0) (wa : (Lit.int .i64 at_).wf = true) (hT : Tabs w) (hRd : Rds w) :
    Calls Tryd.prog 7 #[.slice a0 len0 cap0, .int .i64 at_] w fun e w' => e = .returned (.bool true) ∧ Below w.heap.size w w' := by
  have HT := Aside0.mk hT
  have HRD := Aside0.mk hRd
  have HR := Aside0.mk hr0
  have HN := Aside0.mk hn0
  have HC := Aside0.mk hc0
  have HM := Aside0.mk hm0
  have HS := Aside0.mk (tiny_of hs0)
  have HI := Aside0.mk hi0
  have HA := Aside0.mk (bounds_i64 wa)
  clear hT hRd hr0 hn0 hc0 hm0 hs0 hi0 wa
  by_cases hk : checkL l0 = 0
  · have HK := Aside0.mk hk
    have hbb := bytesL_len hk HS.out HI.out
    obtain ⟨bs, hbs⟩ : ∃ bs, bytesL l0 = bs := ⟨_, rfl⟩
    rw [hbs] at hbb
    have HBS := Aside0.mk hbs
    have HBB := Aside0.mk hbb
    have hne : ((bs.length : Int) == 0) = false := beq_eq_false_iff_ne.2 (by omega)
    have hne2 : ¬ bs.length = 0 := by omega
    have hne3 : ¬ bs = [] := by intro h; rw [h] at hbb; have := hbb.2.1; simp at this
    obtain ⟨q, hq0, hq1⟩ : ∃ q : Nat, (at_ % (bs.length : Int)) = (q : Int) ∧ q < bs.length := ⟨(at_ % (bs.length : Int)).toNat, by have := Int.emod_nonneg at_ (show (bs.length : Int) ≠ 0 by omega); omega, by have h1 := Int.emod_nonneg at_ (show (bs.length : Int) ≠ 0 by omega); have h2 := Int.emod_lt_of_pos at_ (show (0 : Int) < bs.length by omega); omega⟩
    have HQ := Aside0.mk hq0
    have HQ1 := Aside0.mk hq1
    have hcut := parse_cut hk HS.out HI.out q (by rw [hbs]; exact hq1)
    rw [hbs] at hcut
    have HCUT := Aside0.mk (parse_none hcut (by decide))
    clear hk hbs hbb hcut hq0 hq1
    go_enter Tryd.func7, Tryd.ntmps7
    go_wp2_with fail
    refine (works_calls w HT.out HRD.out).mono ?_
    rintro y w1 ⟨rfl, hb⟩
    have HB := Aside0.mk hb
    clear hb
    go_wp2_with fail
    refine (bytes_c w1 (HT.out.below HB.out) HS.out HI.out (Kd.C_below HR.out HB.out) HN.out HC.out HK.out HBS.out).mono ?_
    rintro y w2 ⟨Av, cv, rfl, hlv, hCv, -, hb⟩
    have HV := Aside0.mk hCv
    have HVL := Aside0.mk hlv
    have n0_ := Aside0.mk (below_step HB.out hb); clear HB; have HB := n0_; clear n0_ hCv hlv hb
    go_wp2_with fail
    refine (R0_Bring.calls at_ bs.length q w2 (by rw [Bring_f at_ bs.length HA.out (by have := HBB.out; omega) (by have := HBB.out; omega), HQ.out])).mono ?_
    rintro y w3 ⟨rfl, hd⟩
    have HV3 := Aside0.mk (Kd.C_below HV.out hd.below)
    have n0_ := Aside0.mk (below_step HB.out hd.below); clear HB HV hd; have HB := n0_; clear n0_
    have s3 := slice_to bs Av cv q (Nat.le_of_lt HQ1.out) HVL.out
    have HP := Aside0.mk (parse_calls (b0 := bs.take q) (n := q) (c := cv) w3 (HT.out.below HB.out) (HRD.out.from HB.out HRD.out.lt) (Bytes.take HBB.out.2.2 q) (by rw [List.length_take]; have := HBB.out; omega) (Kd.C_take HV3.out (Nat.le_of_lt HQ1.out)) (by rw [List.length_take, Nat.min_eq_left (Nat.le_of_lt HQ1.out)]) (by have := HQ1.out; have := HVL.out; omega))
    rw [HCUT.out] at HP
    go_wp2_with fail
    refine HP.out.mono ?_
    rintro y w4 ⟨v1, v2, rfl, -, -, hb⟩
    have HB4 := Aside0.mk (below_step HB.out hb)
    clear hb HP
    go_wp2
    go_ret
    exact ⟨rfl, HB4.out⟩
  · have HK := Aside0.mk hk
    obtain ⟨ck, hck⟩ : ∃ ck, checkL l0 = ck := ⟨_, rfl⟩
    have HCK := Aside0.mk hck
    have q1 : (ck != 0) = true := bne_iff_ne.2 (hck ▸ hk)
    clear hk hck
    go_enter Tryd.func7, Tryd.ntmps7
    go_wp2_with fail
    refine (works_calls w HT.out HRD.out).mono ?_
    rintro y w1 ⟨rfl, hb⟩
    have HB := Aside0.mk hb
    clear hb
    have HBAD := Aside0.mk (bytes_bad w1 (HT.out.below HB.out) HS.out.small (Kd.C_below HR.out HB.out) HN.out HC.out (by have := HM.out; omega) HK.out)
    rw [HCK.out] at HBAD
    go_wp2_with fail
    refine HBAD.out.mono ?_
    rintro y w2 ⟨rfl, hb⟩
    have HB2 := Aside0.mk (below_step HB.out hb)
    clear hb HBAD
    go_wp2
    go_ret
    exact ⟨rfl, HB2.out⟩
set_option maxHeartbeats 8000000 in
set_option maxRecDepth 100000 in
theorem poolBack_walk0 (a0 : Option Addr) (len0 cap0 : Nat) (l0 : List S35) (b1 : List Int) (a1 : Option Addr) (c1 : Nat) (w : World) (hr0 : Kd.C k35 w a0 l0.length l0) (hn0 : l0.length = len0) (hc0 : len0 ≤ cap0) (hm0 : len0 ≤ 1048576) (hs0 : ∀ c ∈ l0, c.f1.size ≤ 1048576) (hi0 : Ints l0) (hby : Bytes b1) (hr1 : Kd.C (Kd.int .u8) w a1 b1.length b1) (hc1 : b1.length ≤ c1) (hm1 : b1.length ≤ 1048576) (hT : Tabs w) (hRd : Rds w) :
    Calls Tryd.prog 5 #[.slice a0 len0 cap0, .slice a1 b1.length c1] w fun e w' => e = .returned (.bool true) ∧ Below w.heap.size w w' := by
  have HT := Aside0.mk hT
  have HRD := Aside0.mk hRd
  have HR := Aside0.mk hr0
  have HN := Aside0.mk hn0
  have HC := Aside0.mk hc0
  have HM := Aside0.mk hm0
  have HS := Aside0.mk (tiny_of hs0)
  have HI := Aside0.mk hi0
  have HR1 := Aside0.mk hr1
  have HC1 := Aside0.mk hc1
  have HM1 := Aside0.mk hm1
  have HBY1 := Aside0.mk hby
  clear hT hRd hr0 hn0 hc0 hm0 hs0 hi0 hr1 hc1 hm1 hby
  by_cases hk : checkL l0 = 0
  · have HK := Aside0.mk hk
    have h4096 := (checkL_ok hk).2.1
    have hbb := bytesL_len hk HS.out HI.out
    obtain ⟨z, hz⟩ : ∃ z, bytesL l0 ++ b1 = z := ⟨_, rfl⟩
    have hpz := parse_bytes hk HS.out HI.out b1 HBY1.out (by have := HM1.out; omega)
    rw [hz] at hpz
    have HPZ := Aside0.mk hpz
    have HZB := Aside0.mk (show Bytes z from hz ▸ Bytes.append hbb.2.2 HBY1.out)
    have HZL := Aside0.mk (show z.length ≤ 1000000000000 by rw [← hz, List.length_append]; have := HM1.out; omega)
    obtain ⟨bs, hbs⟩ : ∃ bs, bytesL l0 = bs := ⟨_, rfl⟩
    rw [hbs] at hbb hz
    have HZ := Aside0.mk hz
    have HBS := Aside0.mk hbs
    have HBB := Aside0.mk hbb
    have HLM := Aside0.mk (show l0.length ≤ 4000000000000 by omega)
    clear hk hbs hbb hpz hz h4096
    go_enter Tryd.func5, Tryd.ntmps5
    go_wp2_with fail
    refine (works_calls w HT.out HRD.out).mono ?_
    rintro y w1 ⟨rfl, hb⟩
    have HB := Aside0.mk hb
    clear hb
    go_wp2_with fail
    refine (bytes_c w1 (HT.out.below HB.out) HS.out HI.out (Kd.C_below HR.out HB.out) HN.out HC.out HK.out HBS.out).mono ?_
    rintro y w2 ⟨Av, cv, rfl, hlv, hCv, -, hb⟩
    have HV := Aside0.mk hCv
    have HVL := Aside0.mk hlv
    have n0_ := Aside0.mk (below_step HB.out hb); clear HB; have HB := n0_; clear n0_ hCv hlv hb
    have HCK := Aside0.mk (check_calls w2 (HT.out.below HB.out) HS.out.small (Kd.C_below HR.out HB.out) HN.out HC.out (by have := HM.out; omega))
    rw [HK.out] at HCK
    go_wp2_with fail
    refine HCK.out.mono ?_
    rintro y w3 ⟨rfl, hb⟩
    have HV3 := Aside0.mk (Kd.C_below HV.out hb)
    have n0_ := Aside0.mk (below_step HB.out hb); clear HB HV HCK hb; have HB := n0_; clear n0_
    go_wp2_with fail
    refine (copy_calls HV3.out rfl HVL.out (by have := HBB.out; omega)).mono ?_
    rintro y w4 ⟨v2, rfl, ho2, hb⟩
    have HO := Aside0.mk (Kd.R_lower ho2 (below_size HB.out))
    have n0_ := Aside0.mk (below_step HB.out hb); clear HB hb ho2; have HB := n0_; clear n0_
    have HR4 := Aside0.mk (Kd.C_below HR1.out HB.out)
    go_wp2_with (at_builtin; go_loud (refine Kd.R_append_rows (Kd.int .u8) (w0 := w) w.heap.size rfl _ _ 22 5 (.int .u8 0) 1 rfl Tryd.underlying22 infoB rfl (by decide) (by omega) v2 bs b1 a1 b1.length c1 (fun _ => True) (fun _ => False) rfl rfl HO.out HR4.out (fun _ _ h => h) (fun _ h => h.elim) (fun _ _ => trivial) HB.out (below_size HB.out) (by have := HBB.out; have := HM1.out; omega) ?_); intro v3 w5 ho hb hg hat; rw [HZ.out] at ho; obtain ⟨A3, c3, rfl, hl3, hC3⟩ := Kd.R_reads ho; have HL3 := Aside0.mk hl3; have HC3 := Aside0.mk hC3; have HB5 := Aside0.mk hb; clear ho hb hg hat hl3 hC3)
    refine (parse_calls w5 (HT.out.below HB5.out) (HRD.out.from HB5.out HRD.out.lt) HZB.out HZL.out HC3.out rfl HL3.out).mono ?_
    rw [HPZ.out]
    rintro y w6 ⟨vl, vr, rfl, hol, hor, hb4⟩
    obtain ⟨A4, c4, rfl, hl4, hC4⟩ := Kd.R_reads hol
    obtain ⟨A5, c5, rfl, hl5, hC5⟩ := Kd.R_reads hor
    have HL4 := Aside0.mk hl4
    have HC4 := Aside0.mk hC4
    have HL5 := Aside0.mk hl5
    have HC5 := Aside0.mk hC5
    have HB6 := Aside0.mk (below_step HB5.out hb4)
    clear HB HB5 hol hor hb4 hl4 hl5 hC4 hC5 HO HC3 HL3 HV3 HVL
    go_wp2_with fail
    refine (same_calls (Kd.C_below HR.out HB6.out) HN.out HC.out HC4.out rfl HL4.out HLM.out).mono ?_
    rintro y w7 ⟨rfl, hb⟩
    have HB7 := Aside0.mk (below_step HB6.out hb)
    have HC57 := Aside0.mk (Kd.C_below HC5.out hb)
    clear hb HB6 HC4 HC5
    go_wp2_with fail
    refine (eq_calls true HC57.out rfl HL5.out (Kd.C_below HR1.out HB7.out) rfl HC1.out (by have := HM1.out; omega) (decide_eq_true rfl)).mono ?_
    rintro y w8 ⟨rfl, hb⟩
    have HB8 := Aside0.mk (below_step HB7.out hb)
    clear hb
    go_wp2
    go_ret
    exact ⟨rfl, HB8.out⟩
  · have HK := Aside0.mk hk
    obtain ⟨ck, hck⟩ : ∃ ck, checkL l0 = ck := ⟨_, rfl⟩
    have HCK := Aside0.mk hck
    have q1 : (ck != 0) = true := bne_iff_ne.2 (hck ▸ hk)
    clear hk hck
    go_enter Tryd.func5, Tryd.ntmps5
    go_wp2_with fail
    refine (works_calls w HT.out HRD.out).mono ?_
    rintro y w1 ⟨rfl, hb⟩
    have HB := Aside0.mk hb
    clear hb
    have HBAD := Aside0.mk (bytes_bad w1 (HT.out.below HB.out) HS.out.small (Kd.C_below HR.out HB.out) HN.out HC.out (by have := HM.out; omega) HK.out)
    rw [HCK.out] at HBAD
    go_wp2_with fail
    refine HBAD.out.mono ?_
    rintro y w2 ⟨rfl, hb⟩
    have HB2 := Aside0.mk (below_step HB.out hb)
    clear hb HBAD
    have HCHK := Aside0.mk (check_calls w2 (HT.out.below HB2.out) HS.out.small (Kd.C_below HR.out HB2.out) HN.out HC.out (by have := HM.out; omega))
    rw [HCK.out] at HCHK
    go_wp2_with fail
    refine HCHK.out.mono ?_
    rintro y w3 ⟨rfl, hb⟩
    have HB3 := Aside0.mk (below_step HB2.out hb)
    clear hb HCHK
    go_wp2
    go_ret
    exact ⟨rfl, HB3.out⟩
theorem poolBack_walk (a0 : Option Addr) (len0 cap0 : Nat) (l0 : List S35) (a1 : Option Addr) (len1 cap1 : Nat) (z1 : List Int) (w : World) (hr0 : Kd.C k35 w a0 l0.length l0) (hn0 : l0.length = len0) (hc0 : len0 ≤ cap0) (hm0 : len0 ≤ 1048576) (hs0 : ∀ c ∈ l0, c.f1.size ≤ 1048576) (hi0 : Ints l0) (w1 : (a1 = none ∧ len1 = 0 ∧ cap1 = 0 ∧ z1 = []) ∨ ∃ x, a1 = some x ∧ len1 ≤ cap1 ∧ cap1 ≤ maxLen ∧ z1.length = cap1 ∧ (∀ i, i < z1.length → w.cell? (x.add i) = some (.int .u8 (z1.getD i 0))) ∧ ∀ n ∈ z1, (Lit.int .u8 n).wf = true) (y1 : len1 ≤ 1048576) (hT : Tabs w) (hRd : Rds w) :
    Calls Tryd.prog 5 #[.slice a0 len0 cap0, .slice a1 len1 cap1] w fun e w' => e = .returned (.bool true) ∧ Below w.heap.size w w' := by
  obtain ⟨b1, rfl, hr1, hm1, hw1, hc1⟩ := ReadsInt.ofRowC w1
  exact poolBack_walk0 a0 len0 cap0 l0 b1 a1 cap1 w hr0 hn0 hc0 hm0 hs0 hi0 (bytes_wf hw1) (Kd.C_of_reads (d := (0 : Int)) (h1 := fun _ => rfl) hr1) hc1 y1 hT hRd
set_option maxHeartbeats 8000000 in
set_option maxRecDepth 100000 in
theorem poolAgain_walk0 (b0 : List Int) (a0 : Option Addr) (c0 : Nat) (w : World) (hby : Bytes b0) (hr0 : Kd.C (Kd.int .u8) w a0 b0.length b0) (hc0 : b0.length ≤ c0) (hm0 : b0.length ≤ 1048576) (hT : Tabs w) (hRd : Rds w) :
    Calls Tryd.prog 6 #[.slice a0 b0.length c0] w fun e w' => e = .returned (.bool true) ∧ Below w.heap.size w w' := by
  have HT := Aside0.mk hT
  have HRD := Aside0.mk hRd
  have HR := Aside0.mk hr0
  have HC := Aside0.mk hc0
  have HM := Aside0.mk hm0
  have HBY := Aside0.mk hby
  clear hT hRd hr0 hc0 hm0
  by_cases hk : (parseL b0).2.2 = 0
  · have hp := parse_back hby (by have := HM.out; omega) hk
    obtain ⟨l, r, e, hx⟩ : ∃ l r e, parseL b0 = (l, r, e) := ⟨_, _, _, rfl⟩
    rw [hx] at hp hk
    have he : e = 0 := hk
    subst he
    obtain ⟨hk1, hk2, hk3, hk4, hk5, hk6⟩ := hp
    simp only at hk1 hk2 hk3 hk4 hk5 hk6
    obtain ⟨bs, hbs⟩ : ∃ bs, bytesL l = bs := ⟨_, rfl⟩
    rw [hbs] at hk2
    have HX := Aside0.mk hx
    have HK := Aside0.mk hk1
    have HBS := Aside0.mk hbs
    have HZ := Aside0.mk hk2
    have HI := Aside0.mk hk5
    have HS := Aside0.mk (show Tiny l from fun c hc => by have := hk6 c hc; have := HM.out; omega)
    have HL := Aside0.mk (checkL_ok hk1).2.1
    have HBL := Aside0.mk (show bs.length + r.length ≤ 1048576 by have := congrArg List.length hk2; rw [List.length_append] at this; have := HM.out; omega)
    clear hk hx hk1 hk2 hk3 hk4 hk5 hk6 hbs hby
    go_enter Tryd.func6, Tryd.ntmps6
    go_wp2_with fail
    refine (works_calls w HT.out HRD.out).mono ?_
    rintro y w1 ⟨rfl, hb⟩
    have HB := Aside0.mk hb
    clear hb
    go_wp2_with fail
    refine (parse_calls w1 (HT.out.below HB.out) (HRD.out.from HB.out HRD.out.lt) HBY.out (by have := HM.out; omega) (Kd.C_below HR.out HB.out) rfl HC.out).mono ?_
    rw [HX.out]
    rintro y w2 ⟨vl, vr, rfl, hol, hor, hb⟩
    obtain ⟨A4, c4, rfl, hl4, hC4⟩ := Kd.R_reads hol
    obtain ⟨A5, c5, rfl, hl5, hC5⟩ := Kd.R_reads hor
    have HL4 := Aside0.mk hl4
    have HC4 := Aside0.mk hC4
    have HL5 := Aside0.mk hl5
    have HC5 := Aside0.mk (hC5)
    have n0_ := Aside0.mk (below_step HB.out hb); clear HB hb hol hor hl4 hl5 hC4 hC5; have HB := n0_; clear n0_
    go_wp2_with fail
    refine (bytes_c w2 (HT.out.below HB.out) HS.out HI.out HC4.out rfl HL4.out HK.out HBS.out).mono ?_
    rintro y w3 ⟨Av, cv, rfl, hlv, hCv, hRv, hb⟩
    have HV := Aside0.mk (Kd.R_lower hRv (below_size HB.out))
    have HC43 := Aside0.mk (Kd.C_below HC4.out hb)
    have HC53 := Aside0.mk (Kd.C_below HC5.out hb)
    have n0_ := Aside0.mk (below_step HB.out hb); clear HB HC4 HC5 hCv hlv hRv hb; have HB := n0_; clear n0_
    have HCHK := Aside0.mk (check_calls w3 (HT.out.below HB.out) HS.out.small HC43.out rfl HL4.out (by have := HL.out; omega))
    rw [HK.out] at HCHK
    go_wp2_with fail
    refine HCHK.out.mono ?_
    rintro y w4 ⟨rfl, hb⟩
    have HV4 := Aside0.mk (Kd.R_below HV.out hb)
    have HC54 := Aside0.mk (Kd.C_below HC53.out hb)
    have n0_ := Aside0.mk (below_step HB.out hb); clear HB HC43 HC53 HV HCHK hb; have HB := n0_; clear n0_
    go_wp2_with (at_builtin; go_loud (refine gate_guard ?hw ?_); (case hw => first | rfl | kernel_rfl); go_loud (refine Kd.R_append_rows (Kd.int .u8) (w0 := w) w.heap.size rfl _ _ 22 5 (.int .u8 0) 1 rfl Tryd.underlying22 infoB rfl (by decide) (by omega) (.slice Av bs.length cv) bs r A5 r.length c5 (fun _ => True) (fun _ => False) rfl rfl HV4.out HC54.out (fun _ _ h => h) (fun _ h => h.elim) (fun _ _ => trivial) HB.out (below_size HB.out) (by have := HBL.out; omega) ?_); intro v3 w5 ho hb hg hat; rw [HZ.out] at ho; obtain ⟨A3, c3, rfl, hl3, hC3⟩ := Kd.R_reads ho; have HL3 := Aside0.mk hl3; have HC3 := Aside0.mk hC3; have HB5 := Aside0.mk hb; clear ho hb hg hat hl3 hC3)
    refine (eq_calls true HC3.out rfl HL3.out (Kd.C_below HR.out HB5.out) rfl HC.out (by have := HM.out; omega) (decide_eq_true rfl)).mono ?_
    rintro y w6 ⟨rfl, hb⟩
    have HB6 := Aside0.mk (below_step HB5.out hb)
    clear hb
    go_wp2
    go_ret
    exact ⟨rfl, HB6.out⟩
  · obtain ⟨e, he⟩ : ∃ e, (parseL b0).2.2 = e := ⟨_, rfl⟩
    have HX := Aside0.mk (parse_none he (he ▸ hk))
    have q1 : (e != 0) = true := bne_iff_ne.2 (he ▸ hk)
    clear hk he hby
    go_enter Tryd.func6, Tryd.ntmps6
    go_wp2_with fail
    refine (works_calls w HT.out HRD.out).mono ?_
    rintro y w1 ⟨rfl, hb⟩
    have HB := Aside0.mk hb
    clear hb
    go_wp2_with fail
    refine (parse_calls w1 (HT.out.below HB.out) (HRD.out.from HB.out HRD.out.lt) HBY.out (by have := HM.out; omega) (Kd.C_below HR.out HB.out) rfl HC.out).mono ?_
    rw [HX.out]
    rintro y w2 ⟨vl, vr, rfl, hol, hor, hb⟩
    obtain ⟨A4, c4, rfl, -, -⟩ := Kd.R_reads hol
    obtain ⟨A5, c5, rfl, -, -⟩ := Kd.R_reads hor
    have HB2 := Aside0.mk (below_step HB.out hb)
    clear hol hor hb
    go_wp2
    go_ret
    exact ⟨rfl, HB2.out⟩
theorem poolAgain_walk (a0 : Option Addr) (len0 cap0 : Nat) (z0 : List Int) (w : World) (w0 : (a0 = none ∧ len0 = 0 ∧ cap0 = 0 ∧ z0 = []) ∨ ∃ x, a0 = some x ∧ len0 ≤ cap0 ∧ cap0 ≤ maxLen ∧ z0.length = cap0 ∧ (∀ i, i < z0.length → w.cell? (x.add i) = some (.int .u8 (z0.getD i 0))) ∧ ∀ n ∈ z0, (Lit.int .u8 n).wf = true) (y0 : len0 ≤ 1048576) (hT : Tabs w) (hRd : Rds w) :
    Calls Tryd.prog 6 #[.slice a0 len0 cap0] w fun e w' => e = .returned (.bool true) ∧ Below w.heap.size w w' := by
  obtain ⟨b0, rfl, hr0, hm0, hw0, hc0⟩ := ReadsInt.ofRowC w0
  exact poolAgain_walk0 b0 a0 cap0 w (bytes_wf hw0) (Kd.C_of_reads (d := (0 : Int)) (h1 := fun _ => rfl) hr0) hc0 y0 hT hRd
end Go.Proofs.YtkhigagkgpfpfaaDoor.Ext

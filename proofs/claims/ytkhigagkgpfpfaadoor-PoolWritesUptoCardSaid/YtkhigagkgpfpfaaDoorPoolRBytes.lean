/- The reference's Bytes of package pool, walked. -/
import Derived.Test.YtkhigagkgpfpfaaDoorPoolMay
import Derived.Test.YtkhigagkgpfpfaaDoorPoolRefU
import Derived.Test.YtkhigagkgpfpfaaDoorLebS
set_option linter.unusedVariables false
set_option linter.unusedSimpArgs false
namespace Go.Proofs.YtkhigagkgpfpfaaDoor.Ext
open Go.RowKit Go.Lib Go.Proofs.YtkhigagkgpfpfaaDoorW.PrintWords Go.Proofs.YtkhigagkgpfpfaaDoorW.PrintLast Go.Proofs.YtkhigagkgpfpfaaDoorW.PrintMore Go.Proofs.YtkhigagkgpfpfaaDoor.PLeb
attribute [local go_sem] max2_int min2_int max_two min_two max_three min_three max_four min_four

theorem ru_calls (n : Int) (w : World) (h : 0 ≤ n ∧ n ≤ 9007199254740991) :
    Calls Tryd.prog 52 #[.int .i64 n] w fun e w' => ∃ (A : Option Addr) (c : Nat), e = .returned (.slice A (ub n.toNat).length c) ∧ (ub n.toNat).length ≤ c ∧ Kd.C (Kd.int .u8) w' A (ub n.toNat).length (ub n.toNat) ∧ Kd.R (Kd.int .u8) 5 w' w.heap.size (fun _ => True) (.slice A (ub n.toNat).length c) (ub n.toNat) ∧ Below w.heap.size w w' := by
  have hf : R4_u.f 10 n = some (ub n.toNat) := by unfold R4_u.f; rw [R1_U_f 10 n (Nat.le_refl _) h.1 h.2]; rfl
  refine (R4_u.calls 10 n _ w hf).mono ?_
  rintro e w' ⟨v, rfl, ho, hb⟩
  obtain ⟨A, c, rfl, hl, hC⟩ := Kd.R_reads ho
  exact ⟨A, c, rfl, hl, hC, ho, hb⟩
theorem ru_nat (n : Nat) (w : World) (h : n ≤ 9007199254740991) :
    Calls Tryd.prog 52 #[.int .i64 (n : Int)] w fun e w' => ∃ (A : Option Addr) (c : Nat), e = .returned (.slice A (ub n).length c) ∧ (ub n).length ≤ c ∧ Kd.C (Kd.int .u8) w' A (ub n).length (ub n) ∧ Kd.R (Kd.int .u8) 5 w' w.heap.size (fun _ => True) (.slice A (ub n).length c) (ub n) ∧ Below w.heap.size w w' := by
  have := ru_calls (n : Int) w ⟨by omega, by omega⟩
  rwa [Int.toNat_natCast] at this
theorem rs_calls (n : Int) (w : World) (h0 : -9223372036854775808 ≤ n) (h1 : n ≤ 9223372036854775807) :
    Calls Tryd.prog 54 #[.int .i64 n] w fun e w' => ∃ (A : Option Addr) (c : Nat), e = .returned (.slice A (sb n).length c) ∧ (sb n).length ≤ c ∧ Kd.C (Kd.int .u8) w' A (sb n).length (sb n) ∧ Below w.heap.size w w' := by
  have hf : R1_S.f n = some (sb n) := by unfold R1_S.f; rw [if_pos ⟨h0, h1⟩]
  refine (R1_S.calls n _ w hf).mono ?_
  rintro e w' ⟨v, rfl, ho, hb⟩
  obtain ⟨A, c, rfl, hl, hC⟩ := Kd.R_reads ho
  exact ⟨A, c, rfl, hl, hC, hb⟩
theorem renc_ok (s : ByteArray) (w : World) (hs : s.size ≤ 17592186044416) (hT : Tabs w) (hv : tOK s = true) :
    Calls Tryd.prog 53 #[.string s] w fun e w' => ∃ (A : Option Addr) (c : Nat), e = .returned (.tuple #[.slice A (mBytes s).length c, .int .i64 0]) ∧ (mBytes s).length ≤ c ∧ Kd.C (Kd.int .u8) w' A (mBytes s).length (mBytes s) ∧ Kd.R (Kd.int .u8) 5 w' w.heap.size (fun _ => True) (.slice A (mBytes s).length c) (mBytes s) ∧ Below w.heap.size w w' := by
  obtain ⟨hcs, he⟩ := chars_ok hv
  have h1 := us_len (chars s)
  have h2 := size_us he
  exact renc_good (chars s) s w hcs he (by omega) hT
set_option maxHeartbeats 4000000 in
set_option maxRecDepth 100000 in
theorem rbytes_bad {l : List S35} {A : Option Addr} {n cap : Nat} (w : World) (hT : Tabs w) (hs : Small l) (hr : Kd.C k35 w A l.length l) (hn : l.length = n) (hc : n ≤ cap) (hm : n ≤ 4611686018427387904) (hk : checkL l ≠ 0) :
    Calls Tryd.prog 32 #[.slice A n cap] w fun e w' => e = .returned (.tuple #[.slice none 0 0, .int .i64 (checkL l)]) ∧ Below w.heap.size w w' := by
  have HC := Aside0.mk (rcheck_calls w hT hs hr hn hc hm)
  clear hT hs hr hn hc hm
  obtain ⟨v, hv⟩ : ∃ v, checkL l = v := ⟨_, rfl⟩
  rw [hv] at HC hk ⊢
  have q1 : (v != 0) = true := bne_iff_ne.2 hk
  clear hk
  go_enter Tryd.func32, Tryd.ntmps32
  go_wp2_with fail
  refine HC.out.mono ?_
  rintro e w1 ⟨rfl, hb⟩
  have HB := Aside0.mk hb
  clear hb HC
  go_wp2
  repeat (go_quiet (fail); try go_wp2)
  go_ret2
  exact ⟨rfl, HB.out⟩

set_option maxHeartbeats 16000000 in
set_option maxRecDepth 100000 in
theorem rbytes_ok {l : List S35} {A : Option Addr} {n cap : Nat} (w : World) (hT : Tabs w) (hs : Tiny l) (hi : Ints l) (hr : Kd.C k35 w A l.length l) (hn : l.length = n) (hc : n ≤ cap) (hk : checkL l = 0) :
    Calls Tryd.prog 32 #[.slice A n cap] w fun e w' => ∃ v : Value, e = .returned (.tuple #[v, .int .i64 0]) ∧ Kd.R (Kd.int .u8) 5 w' w.heap.size (fun _ => True) v (bytesL l) ∧ Below w.heap.size w w' := by
  subst hn
  obtain ⟨hpos, hmax, hfit, hz⟩ := checkL_ok hk
  have hcc := rcheck_calls w hT hs.small hr rfl hc (by omega)
  rw [hk] at hcc
  have hu35 := Tryd.underlying35
  have HCC := Aside0.mk hcc
  have HR := Aside0.mk hr
  have HT := Aside0.mk hT
  have HS := Aside0.mk hs
  have HI := Aside0.mk hi
  have HF := Aside0.mk hfit
  have HM := Aside0.mk hmax
  have HP := Aside0.mk hpos
  have HCAP := Aside0.mk hc
  clear hcc hT hs hi hr hk hz hfit hmax hpos hc
  obtain ⟨m, hm⟩ : ∃ m : Nat, l.length = m := ⟨_, rfl⟩
  rw [hm] at HM HP HCAP HCC ⊢
  have HL := Aside0.mk hm
  obtain ⟨R, hR⟩ : ∃ R, bytesL l = R := ⟨_, rfl⟩
  rw [hR]
  have HRR := Aside0.mk hR
  clear hm hR
  go_enter Tryd.func32, Tryd.ntmps32
  go_wp2_with fail
  refine HCC.out.mono ?_
  rintro e w1 ⟨rfl, hb⟩
  have HB1 := Aside0.mk hb
  clear hb HCC
  go_wp2_with fail
  refine (ru_nat m w1 (by have := HM.out; omega)).mono ?_
  rintro e w2 ⟨A2, c2, rfl, -, -, ho, hb⟩
  have HS2 := Aside0.mk (Kd.R_lower ho (below_size HB1.out))
  have HB2 := Aside0.mk (below_step HB1.out hb)
  clear ho hb HB1
  go_wp2
  have HLEN := Aside0.mk (show (l.drop 1).length = m - 1 by rw [List.length_drop, HL.out])
  go_loopw [6, 5] (fun i v wr => ∃ (j : Nat) (vv : Value), i = .int .i64 (j : Int) ∧ v = vv ∧ 1 ≤ j ∧ j ≤ m ∧ Aside0 (Kd.R (Kd.int .u8) 5 wr w.heap.size (fun _ => True) vv (ub m ++ ((l.drop 1).take (j - 1)).flatMap constL)) ∧ Aside0 (Below w.heap.size w wr)) (fun i _ _ => m - (RowKit.intOf i).toNat)
  case atStart => exact ⟨1, _, rfl, rfl, Nat.le_refl _, HP.out, ⟨by rw [Nat.sub_self, List.take_zero, List.flatMap_nil, List.append_nil]; exact HS2.out⟩, HB2⟩
  case round =>
    obtain ⟨j, vv, rfl, hv', hj1, hj, HO3, HB3⟩ := hrel
    have hv'' := hv'.symm
    subst hv''
    clear HS2 HB2
    by_cases hlt : j < m
    · have hltz : decide ((j : Int) < (m : Int)) = true := decide_eq_true (by omega)
      have hltz2 : (j : Int) < (m : Int) := by omega
      obtain ⟨ad, e0, x0, x1, x2, x3, x4, x5⟩ := at_T35 (Kd.C_below HR.out HB3.out) (j : Int) (by omega) (by have := HL.out; omega)
      subst e0
      rw [Int.toNat_natCast] at x0 x1 x2 x3 x4 x5
      have hkl : j - 1 < (l.drop 1).length := by have := HLEN.out; omega
      have hrd : rd_T35 l (j : Int) = (l.drop 1)[j - 1] := by
        unfold rd_T35
        rw [List.getD_eq_getElem?_getD, Int.toNat_natCast, List.getElem_drop, List.getElem?_eq_getElem (by have := HL.out; omega)]
        simp only [Option.getD_some]
        congr 1; omega
      have hmem : rd_T35 l (j : Int) ∈ l.drop 1 := by rw [hrd]; exact List.getElem_mem hkl
      have HFIT := Aside0.mk (HF.out _ hmem)
      have hsz := HS.out _ (List.mem_of_mem_drop hmem)
      have hin := HI.out _ (List.mem_of_mem_drop hmem)
      have hcl : ∀ c ∈ l.drop 1, (constL c).length ≤ 60000000 := fun c hc => const_len (by have := HL.out; have := HM.out; omega) (HF.out c hc) (HS.out c (List.mem_of_mem_drop hc)) (HI.out c (List.mem_of_mem_drop hc)).1 (HI.out c (List.mem_of_mem_drop hc)).2
      have hsn : (ub m ++ ((l.drop 1).take (j - 1)).flatMap constL) ++ constL (rd_T35 l (j : Int)) = ub m ++ ((l.drop 1).take (j + 1 - 1)).flatMap constL := by
        rw [show j + 1 - 1 = (j - 1) + 1 by omega, flat_snoc _ _ hkl, hrd, List.append_assoc]
      have hfl := flat_len ((l.drop 1).take (j - 1)) (fun c hc => hcl c (List.mem_of_mem_take hc))
      have hub := ub_len8 m (by have := HM.out; omega)
      have hlen : (ub m ++ ((l.drop 1).take (j - 1)).flatMap constL).length ≤ 1000000000000 := by
        rw [List.length_append]; rw [List.length_take] at hfl; have := HLEN.out; have := HM.out; omega
      have hjm : ((j : Int) + 1) ≤ 4097 := by have := HM.out; omega
      have HSN := Aside0.mk hsn
      have HLE := Aside0.mk hlen
      clear hsn hlen hfl hub hcl hmem hrd hkl
      generalize rd_T35 l (j : Int) = x at *
      obtain ⟨kk, t, n, a, b, d⟩ := x
      generalize ub m ++ ((l.drop 1).take (j - 1)).flatMap constL = out at *
      have hO := Kd.own_of_R HO3.out
      have HOW := Aside0.mk (fun o => World.ownsRow.alloc hO o)
      have HBW := Aside0.mk (fun o => below_alloc HB3.out o)
      have HVL := Aside0.mk (show some wr.heap.size ≠ vv.ownBlock from fun h => by have := own_lt hO wr.heap.size h.symm; omega)
      have HBP := Aside0.mk (below_size HB3.out)
      have HBPW := Aside0.mk (fun (o : Obj) => show w.heap.size ≤ (wr.alloc o).heap.size by rw [World.size_alloc]; have := HBP.out; omega)
      have HSZ := Aside0.mk (fun (o : Obj) => show wr.heap.size < (wr.alloc o).heap.size by rw [World.size_alloc]; omega)
      have HLE1 := Aside0.mk (show (out.length + 1) * 1 ≤ 140737488355328 by have := HLE.out; omega)
      have hbl := World.block_lt_of_cell? wr _ x0
      clear hO HO3 HB3
      rcases fits_kinds HFIT.out with hk1 | hk1 | hk1 | hk1
      · subst hk1
        have hf1 := fits_1 HFIT.out
        have ht := hf1.1
        have h6 := mBytes_len ht
        have htz : t.size ≤ 8388608 := hsz
        have HENC := Aside0.mk (fun (w1 : World) (hT1 : Tabs w1) => renc_ok t w1 (by omega) hT1 ht)
        obtain ⟨mb, hmb⟩ : ∃ mb, mBytes t = mb := ⟨_, rfl⟩
        rw [hmb] at HENC h6
        have HMB := Aside0.mk (show mb.length ≤ 50331648 by omega)
        obtain ⟨z1, hz1⟩ : ∃ z1, out ++ [1] = z1 := ⟨_, rfl⟩
        have HZ1 := Aside0.mk hz1
        have HZL := Aside0.mk (show z1.length ≤ 1000000000001 by rw [← hz1, List.length_append]; have := HLE.out; simp; omega)
        obtain ⟨z2, hz2⟩ : ∃ z2, z1 ++ ub mb.length = z2 := ⟨_, rfl⟩
        have HZ2 := Aside0.mk hz2
        have HZ3 := Aside0.mk (show z2 ++ mb = out ++ constL ⟨1, t, n, a, b, d⟩ by rw [← hz2, ← hz1, constL_1, hmb]; simp)
        have h8 := ub_len8 mb.length (by have := HMB.out; omega)
        have HLA := Aside0.mk (show (z1.length + (ub mb.length).length) * 1 ≤ 140737488355328 by have := HZL.out; omega)
        have HLB := Aside0.mk (show (z2.length + mb.length) * 1 ≤ 140737488355328 by rw [← hz2, List.length_append]; have := HZL.out; have := HMB.out; omega)
        clear hz1 hz2 hmb h6 hf1 ht htz h8
        go_wp2_with (at_builtin; go_loud (refine print_append_num (w0 := w) w.heap.size rfl (.tmp 28) (.tmp 32) 22 5 .u8 1 rfl Tryd.underlying22 infoB (by decide) vv out 1 rfl (congrArg (fun s => Value.slice (some ⟨s, 0, none⟩) 1 1) (World.size_alloc (w := wr) _).symm) (HOW.out _) (HBW.out _) (HBPW.out _) HLE1.out ?_); intro v1 w5 ho hb hg hat; rw [HZ1.out] at ho; go_loud (have HO5 := Aside0.mk (Kd.R_of_own (enc := Value.int .u8) (h1 := fun _ => rfl) (ok := fun _ => True) ho (fun _ _ => trivial))); go_loud (have HB5 := Aside0.mk hb); go_loud (have hC5 := (hg.block wr.heap.size (HSZ.out _) HVL.out).trans (heap_alloc_new wr _)); go_loud (have HC5 := Aside0.mk hC5); go_loud (have c50 : w5.cell? ⟨wr.heap.size, 0, none⟩ = some (.int .i64 1) := cell_of_row _ _ 0 _ _ _ hC5); go_loud (have c51 : w5.cell? ⟨wr.heap.size, 1, none⟩ = some (.string t) := cell_of_row _ _ 1 _ _ _ hC5); clear ho hb hg hat hC5)
        refine (HENC.out _ (HT.out.below HB5.out)).mono ?_
        rintro e w6 ⟨A2, c2, rfl, hl2, -, ho2, hb2⟩
        have HE6 := Aside0.mk (Kd.R_new ho2 (Kd.own_of_R HO5.out))
        have HO6 := Aside0.mk (Kd.R_below HO5.out hb2)
        have HB6 := Aside0.mk (below_step HB5.out hb2)
        clear hl2 ho2 hb2
        go_wp2_with fail
        refine (ru_nat mb.length w6 (by have := HMB.out; omega)).mono ?_
        rintro e w7 ⟨A3, c3, rfl, -, hC3, -, hb3⟩
        have HE7 := Aside0.mk (Kd.R_below HE6.out hb3)
        have HO7 := Aside0.mk (Kd.R_below HO6.out hb3)
        have HB7 := Aside0.mk (below_step HB6.out hb3)
        have HX7 := Aside0.mk hC3
        clear hC3 hb3
        go_wp2_with (first
          | (at_builtin; (refine Kd.R_append_rows (Kd.int .u8) (w0 := w) w.heap.size rfl _ _ 22 5 (.int .u8 0) 1 rfl Tryd.underlying22 infoB rfl (by decide) (by omega) v1 z1 (ub mb.length) A3 (ub mb.length).length c3 (fun _ => True) (fun _ => False) rfl rfl HO7.out HX7.out (fun _ _ h => h) (fun _ h => h.elim) (fun _ _ => trivial) HB7.out (below_size HB7.out) HLA.out ?_); intro v8 w8 ho hb hg hat; rw [HZ2.out] at ho; have HO8 := Aside0.mk ho; have HB8 := Aside0.mk hb; have HE8 := Aside0.mk (Kd.R_grown HE7.out hg (fun _ hk => hk.2)); clear ho hb hg hat; have HX8 := Aside0.mk (Kd.R_reads' HE8.out))
          | (at_builtin; go_loud (refine Kd.R_append_rows (Kd.int .u8) (w0 := w) w.heap.size rfl _ _ 22 5 (.int .u8 0) 1 rfl Tryd.underlying22 infoB rfl (by decide) (by omega) v8 z2 mb A2 mb.length c2 (fun _ => True) (fun _ => False) rfl rfl HO8.out HX8.out.2.2 (fun _ _ h => h) (fun _ h => h.elim) (fun _ _ => trivial) HB8.out (below_size HB8.out) HLB.out ?_); intro v9 w9 ho hb hg hat; rw [HZ3.out.trans HSN.out] at ho; have HO9 := Aside0.mk ho; have HB9 := Aside0.mk hb; clear ho hb hg hat))
        go_wp2
        go_roundw
        case rel => exact ⟨j + 1, v9, by go_num, rfl, by omega, by omega, HO9, HB9⟩
        case measure => simp [RowKit.intOf]; omega
      · rcases hk1 with hk1 | hk1
        · subst hk1
          have HN10 := Aside0.mk (show (sb n).length ≤ 10 from sb_len10 n hin.1 hin.2)
          have HIN := Aside0.mk hin
          obtain ⟨z1, hz1⟩ : ∃ z1, out ++ [2] = z1 := ⟨_, rfl⟩
          have HZ1 := Aside0.mk hz1
          have HZL := Aside0.mk (show z1.length ≤ 1000000000001 by rw [← hz1, List.length_append]; have := HLE.out; simp; omega)
          have HZ2 := Aside0.mk (show z1 ++ sb n = out ++ constL ⟨2, t, n, a, b, d⟩ by rw [← hz1, constL_2 2 (by omega)]; simp)
          have HLA := Aside0.mk (show (z1.length + (sb n).length) * 1 ≤ 140737488355328 by have := HZL.out; have := HN10.out; omega)
          clear hz1
          go_wp2_with (at_builtin; go_loud (refine print_append_num (w0 := w) w.heap.size rfl (.tmp 28) (.tmp 32) 22 5 .u8 1 rfl Tryd.underlying22 infoB (by decide) vv out 2 rfl (congrArg (fun s => Value.slice (some ⟨s, 0, none⟩) 1 1) (World.size_alloc (w := wr) _).symm) (HOW.out _) (HBW.out _) (HBPW.out _) HLE1.out ?_); intro v1 w5 ho hb hg hat; rw [HZ1.out] at ho; go_loud (have HO5 := Aside0.mk (Kd.R_of_own (enc := Value.int .u8) (h1 := fun _ => rfl) (ok := fun _ => True) ho (fun _ _ => trivial))); go_loud (have HB5 := Aside0.mk hb); go_loud (have hC5 := (hg.block wr.heap.size (HSZ.out _) HVL.out).trans (heap_alloc_new wr _)); go_loud (have HC5 := Aside0.mk hC5); go_loud (have c50 : w5.cell? ⟨wr.heap.size, 0, none⟩ = some (.int .i64 2) := cell_of_row _ _ 0 _ _ _ hC5); go_loud (have c52 : w5.cell? ⟨wr.heap.size, 2, none⟩ = some (.int .i64 n) := cell_of_row _ _ 2 _ _ _ hC5); clear ho hb hg hat hC5)
          refine (rs_calls n _ HIN.out.1 HIN.out.2).mono ?_
          rintro e w6 ⟨A3, c3, rfl, -, hC3, hb3⟩
          have HO6 := Aside0.mk (Kd.R_below HO5.out hb3)
          have HB6 := Aside0.mk (below_step HB5.out hb3)
          have HX6 := Aside0.mk hC3
          clear hC3 hb3
          go_wp2_with (at_builtin; go_loud (refine Kd.R_append_rows (Kd.int .u8) (w0 := w) w.heap.size rfl _ _ 22 5 (.int .u8 0) 1 rfl Tryd.underlying22 infoB rfl (by decide) (by omega) v1 z1 (sb n) A3 (sb n).length c3 (fun _ => True) (fun _ => False) rfl rfl HO6.out HX6.out (fun _ _ h => h) (fun _ h => h.elim) (fun _ _ => trivial) HB6.out (below_size HB6.out) HLA.out ?_); intro v7 w7 ho hb hg hat; rw [HZ2.out.trans HSN.out] at ho; have HO7 := Aside0.mk ho; have HB7 := Aside0.mk hb; clear ho hb hg hat)
          go_wp2
          go_roundw
          case rel => exact ⟨j + 1, v7, by go_num, rfl, by omega, by omega, HO7, HB7⟩
          case measure => simp [RowKit.intOf]; omega
        · subst hk1
          have HN10 := Aside0.mk (show (sb n).length ≤ 10 from sb_len10 n hin.1 hin.2)
          have HIN := Aside0.mk hin
          obtain ⟨z1, hz1⟩ : ∃ z1, out ++ [3] = z1 := ⟨_, rfl⟩
          have HZ1 := Aside0.mk hz1
          have HZL := Aside0.mk (show z1.length ≤ 1000000000001 by rw [← hz1, List.length_append]; have := HLE.out; simp; omega)
          have HZ2 := Aside0.mk (show z1 ++ sb n = out ++ constL ⟨3, t, n, a, b, d⟩ by rw [← hz1, constL_2 3 (by omega)]; simp)
          have HLA := Aside0.mk (show (z1.length + (sb n).length) * 1 ≤ 140737488355328 by have := HZL.out; have := HN10.out; omega)
          clear hz1
          go_wp2_with (at_builtin; go_loud (refine print_append_num (w0 := w) w.heap.size rfl (.tmp 28) (.tmp 32) 22 5 .u8 1 rfl Tryd.underlying22 infoB (by decide) vv out 3 rfl (congrArg (fun s => Value.slice (some ⟨s, 0, none⟩) 1 1) (World.size_alloc (w := wr) _).symm) (HOW.out _) (HBW.out _) (HBPW.out _) HLE1.out ?_); intro v1 w5 ho hb hg hat; rw [HZ1.out] at ho; go_loud (have HO5 := Aside0.mk (Kd.R_of_own (enc := Value.int .u8) (h1 := fun _ => rfl) (ok := fun _ => True) ho (fun _ _ => trivial))); go_loud (have HB5 := Aside0.mk hb); go_loud (have hC5 := (hg.block wr.heap.size (HSZ.out _) HVL.out).trans (heap_alloc_new wr _)); go_loud (have HC5 := Aside0.mk hC5); go_loud (have c50 : w5.cell? ⟨wr.heap.size, 0, none⟩ = some (.int .i64 3) := cell_of_row _ _ 0 _ _ _ hC5); go_loud (have c52 : w5.cell? ⟨wr.heap.size, 2, none⟩ = some (.int .i64 n) := cell_of_row _ _ 2 _ _ _ hC5); clear ho hb hg hat hC5)
          refine (rs_calls n _ HIN.out.1 HIN.out.2).mono ?_
          rintro e w6 ⟨A3, c3, rfl, -, hC3, hb3⟩
          have HO6 := Aside0.mk (Kd.R_below HO5.out hb3)
          have HB6 := Aside0.mk (below_step HB5.out hb3)
          have HX6 := Aside0.mk hC3
          clear hC3 hb3
          go_wp2_with (at_builtin; go_loud (refine Kd.R_append_rows (Kd.int .u8) (w0 := w) w.heap.size rfl _ _ 22 5 (.int .u8 0) 1 rfl Tryd.underlying22 infoB rfl (by decide) (by omega) v1 z1 (sb n) A3 (sb n).length c3 (fun _ => True) (fun _ => False) rfl rfl HO6.out HX6.out (fun _ _ h => h) (fun _ h => h.elim) (fun _ _ => trivial) HB6.out (below_size HB6.out) HLA.out ?_); intro v7 w7 ho hb hg hat; rw [HZ2.out.trans HSN.out] at ho; have HO7 := Aside0.mk ho; have HB7 := Aside0.mk hb; clear ho hb hg hat)
          go_wp2
          go_roundw
          case rel => exact ⟨j + 1, v7, by go_num, rfl, by omega, by omega, HO7, HB7⟩
          case measure => simp [RowKit.intOf]; omega
      · subst hk1
        have ha := isB_pos (l := l) (i := a) (k := 1) (by have := HFIT.out; simp [fitsB] at this; exact this.1)
        have HA := Aside0.mk (show 0 ≤ a ∧ a ≤ 9007199254740991 by have := HL.out; have := HM.out; omega)
        have h8 := ub_len8 a.toNat (by have := HA.out; omega)
        obtain ⟨z1, hz1⟩ : ∃ z1, out ++ [4] = z1 := ⟨_, rfl⟩
        have HZ1 := Aside0.mk hz1
        have HZL := Aside0.mk (show z1.length ≤ 1000000000001 by rw [← hz1, List.length_append]; have := HLE.out; simp; omega)
        have HZ2 := Aside0.mk (show z1 ++ ub a.toNat = out ++ constL ⟨4, t, n, a, b, d⟩ by rw [← hz1, constL_4]; simp)
        have HLA := Aside0.mk (show (z1.length + (ub a.toNat).length) * 1 ≤ 140737488355328 by have := HZL.out; omega)
        clear hz1 ha h8
        go_wp2_with (at_builtin; go_loud (refine print_append_num (w0 := w) w.heap.size rfl (.tmp 28) (.tmp 32) 22 5 .u8 1 rfl Tryd.underlying22 infoB (by decide) vv out 4 rfl (congrArg (fun s => Value.slice (some ⟨s, 0, none⟩) 1 1) (World.size_alloc (w := wr) _).symm) (HOW.out _) (HBW.out _) (HBPW.out _) HLE1.out ?_); intro v1 w5 ho hb hg hat; rw [HZ1.out] at ho; go_loud (have HO5 := Aside0.mk (Kd.R_of_own (enc := Value.int .u8) (h1 := fun _ => rfl) (ok := fun _ => True) ho (fun _ _ => trivial))); go_loud (have HB5 := Aside0.mk hb); go_loud (have hC5 := (hg.block wr.heap.size (HSZ.out _) HVL.out).trans (heap_alloc_new wr _)); go_loud (have HC5 := Aside0.mk hC5); go_loud (have c50 : w5.cell? ⟨wr.heap.size, 0, none⟩ = some (.int .i64 4) := cell_of_row _ _ 0 _ _ _ hC5); go_loud (have c53 : w5.cell? ⟨wr.heap.size, 3, none⟩ = some (.int .i64 a) := cell_of_row _ _ 3 _ _ _ hC5); clear ho hb hg hat hC5)
        refine (ru_calls a _ HA.out).mono ?_
        rintro e w6 ⟨A3, c3, rfl, -, hC3, -, hb3⟩
        have HO6 := Aside0.mk (Kd.R_below HO5.out hb3)
        have HB6 := Aside0.mk (below_step HB5.out hb3)
        have HX6 := Aside0.mk hC3
        clear hC3 hb3
        go_wp2_with (at_builtin; go_loud (refine Kd.R_append_rows (Kd.int .u8) (w0 := w) w.heap.size rfl _ _ 22 5 (.int .u8 0) 1 rfl Tryd.underlying22 infoB rfl (by decide) (by omega) v1 z1 (ub a.toNat) A3 (ub a.toNat).length c3 (fun _ => True) (fun _ => False) rfl rfl HO6.out HX6.out (fun _ _ h => h) (fun _ h => h.elim) (fun _ _ => trivial) HB6.out (below_size HB6.out) HLA.out ?_); intro v7 w7 ho hb hg hat; rw [HZ2.out.trans HSN.out] at ho; have HO7 := Aside0.mk ho; have HB7 := Aside0.mk hb; clear ho hb hg hat)
        go_wp2
        go_roundw
        case rel => exact ⟨j + 1, v7, by go_num, rfl, by omega, by omega, HO7, HB7⟩
        case measure => simp [RowKit.intOf]; omega
      · rcases hk1 with hk1 | hk1
        · subst hk1
          have hf := HFIT.out
          simp only [fitsB] at hf
          rw [if_neg (by decide), if_neg (by decide), if_neg (by decide), if_neg (by decide), if_pos (by decide)] at hf
          simp only [Bool.and_eq_true] at hf
          have ha := isB_pos hf.1.1
          have hb := isB_pos hf.1.2.1
          have hd := isB_pos hf.1.2.2
          have HA := Aside0.mk (show (0 ≤ a ∧ a ≤ 9007199254740991) ∧ (0 ≤ b ∧ b ≤ 9007199254740991) ∧ (0 ≤ d ∧ d ≤ 9007199254740991) by have := HL.out; have := HM.out; omega)
          have h8 := ub_len8 a.toNat (by have := HA.out; omega)
          have h9 := ub_len8 b.toNat (by have := HA.out; omega)
          have h10 := ub_len8 d.toNat (by have := HA.out; omega)
          obtain ⟨z1, hz1⟩ : ∃ z1, out ++ [5] = z1 := ⟨_, rfl⟩
          have HZ1 := Aside0.mk hz1
          have HZL := Aside0.mk (show z1.length ≤ 1000000000001 by rw [← hz1, List.length_append]; have := HLE.out; simp; omega)
          obtain ⟨z2, hz2⟩ : ∃ z2, z1 ++ ub a.toNat = z2 := ⟨_, rfl⟩
          have HZ2 := Aside0.mk hz2
          obtain ⟨z3, hz3⟩ : ∃ z3, z2 ++ ub b.toNat = z3 := ⟨_, rfl⟩
          have HZ3 := Aside0.mk hz3
          have HZ4 := Aside0.mk (show z3 ++ ub d.toNat = out ++ constL ⟨5, t, n, a, b, d⟩ by rw [← hz3, ← hz2, ← hz1, constL_5 5 (by omega)]; simp)
          have HLA := Aside0.mk (show (z1.length + (ub a.toNat).length) * 1 ≤ 140737488355328 by have := HZL.out; omega)
          have HLB := Aside0.mk (show (z2.length + (ub b.toNat).length) * 1 ≤ 140737488355328 by rw [← hz2, List.length_append]; have := HZL.out; omega)
          have HLC := Aside0.mk (show (z3.length + (ub d.toNat).length) * 1 ≤ 140737488355328 by rw [← hz3, List.length_append, ← hz2, List.length_append]; have := HZL.out; omega)
          clear hz1 hz2 hz3 ha hb hd hf h8 h9 h10
          go_wp2_with (at_builtin; go_loud (refine print_append_num (w0 := w) w.heap.size rfl (.tmp 28) (.tmp 32) 22 5 .u8 1 rfl Tryd.underlying22 infoB (by decide) vv out 5 rfl (congrArg (fun s => Value.slice (some ⟨s, 0, none⟩) 1 1) (World.size_alloc (w := wr) _).symm) (HOW.out _) (HBW.out _) (HBPW.out _) HLE1.out ?_); intro v1 w5 ho hb hg hat; rw [HZ1.out] at ho; go_loud (have HO5 := Aside0.mk (Kd.R_of_own (enc := Value.int .u8) (h1 := fun _ => rfl) (ok := fun _ => True) ho (fun _ _ => trivial))); go_loud (have HB5 := Aside0.mk hb); go_loud (have hC5 := (hg.block wr.heap.size (HSZ.out _) HVL.out).trans (heap_alloc_new wr _)); go_loud (have HC5 := Aside0.mk hC5); go_loud (have c50 : w5.cell? ⟨wr.heap.size, 0, none⟩ = some (.int .i64 5) := cell_of_row _ _ 0 _ _ _ hC5); go_loud (have c53 : w5.cell? ⟨wr.heap.size, 3, none⟩ = some (.int .i64 a) := cell_of_row _ _ 3 _ _ _ hC5); go_loud (have c54 : w5.cell? ⟨wr.heap.size, 4, none⟩ = some (.int .i64 b) := cell_of_row _ _ 4 _ _ _ hC5); go_loud (have c55 : w5.cell? ⟨wr.heap.size, 5, none⟩ = some (.int .i64 d) := cell_of_row _ _ 5 _ _ _ hC5); clear ho hb hg hat hC5)
          have HOd := Aside0.mk (show Kd.R (Kd.int .u8) 5 w5.drew w.heap.size (fun _ => True) v1 z1 by apply Kd.R_drew; exact HO5.out)
          have HBd := Aside0.mk HB5.out.drew
          have HCd := Aside0.mk (show w5.drew.heap[wr.heap.size]? = _ from HC5.out)
          refine start_ (n := 14) (S := fun w' => w'.cell? ⟨wr.heap.size, 3, none⟩ = some (.int .i64 a) ∧ w'.cell? ⟨wr.heap.size, 4, none⟩ = some (.int .i64 b) ∧ w'.cell? ⟨wr.heap.size, 5, none⟩ = some (.int .i64 d)) (ds := []) #[false, false, false, false, false, false, false, false, false, false, false, false, false, false] (by kernel_rfl) rfl rfl ⟨show w5.drew.cell? _ = _ from c53, show w5.drew.cell? _ = _ from c54, show w5.drew.cell? _ = _ from c55⟩ (fun hHeld => ?_)
          refine pure_ (i := 0) (N := some 36) (v := ?_) (a' := ?_) #[true, false, false, false, false, false, false, false, false, false, false, false, false, false] rfl rfl (by kernel_rfl) (fun _ _ _ h => h) (Or.inl ⟨by rfl, ?_⟩) ?_ ?_
          rotate_left
          · intro w'
            go_simp
            with_reducible rfl
          rotate_left
          · simp only [Act.put, List.setIfInBounds_toArray, List.set_cons_zero, List.set_cons_succ, i64_w, i32_w]
            rfl
          refine pure_ (i := 1) (N := some 37) (v := ?_) (a' := ?_) #[true, true, false, false, false, false, false, false, false, false, false, false, false, false] rfl rfl (by kernel_rfl) (fun _ _ _ h => h) (Or.inl ⟨by rfl, ?_⟩) ?_ ?_
          rotate_left
          · intro w'
            go_simp
            with_reducible rfl
          rotate_left
          · simp only [Act.put, List.setIfInBounds_toArray, List.set_cons_zero, List.set_cons_succ, i64_w, i32_w]
            rfl
          refine pure_ (i := 5) (N := some 41) (v := ?_) (a' := ?_) #[true, true, false, false, false, true, false, false, false, false, false, false, false, false] rfl rfl (by kernel_rfl) (fun _ _ _ h => h) (Or.inl ⟨by rfl, ?_⟩) ?_ ?_
          rotate_left
          · intro w'
            go_simp
            with_reducible rfl
          rotate_left
          · simp only [Act.put, List.setIfInBounds_toArray, List.set_cons_zero, List.set_cons_succ, i64_w, i32_w]
            rfl
          refine pure_ (i := 9) (N := some 45) (v := ?_) (a' := ?_) #[true, true, false, false, false, true, false, false, false, true, false, false, false, false] rfl rfl (by kernel_rfl) (fun _ _ _ h => h) (Or.inl ⟨by rfl, ?_⟩) ?_ ?_
          rotate_left
          · intro w'
            go_simp
            with_reducible rfl
          rotate_left
          · simp only [Act.put, List.setIfInBounds_toArray, List.set_cons_zero, List.set_cons_succ, i64_w, i32_w]
            rfl
          refine take_ (i := 2) (N := some 38) (v := ?_) (a' := ?_) #[true, true, true, false, false, true, false, false, false, true, false, false, false, false] rfl rfl (by kernel_rfl) (fun _ _ _ h => h) (Or.inl ⟨by rfl, ?_⟩) hHeld ?_ ?_
          rotate_left
          · rintro w' ⟨s0, s1, s2⟩
            go_simp
            with_reducible rfl
          rotate_left
          · simp only [Act.put, List.setIfInBounds_toArray, List.set_cons_zero, List.set_cons_succ, i64_w, i32_w]
            rfl
          refine take_ (i := 6) (N := some 42) (v := ?_) (a' := ?_) #[true, true, true, false, false, true, true, false, false, true, false, false, false, false] rfl rfl (by kernel_rfl) (fun _ _ _ h => h) (Or.inl ⟨by rfl, ?_⟩) hHeld ?_ ?_
          rotate_left
          · rintro w' ⟨s0, s1, s2⟩
            go_simp
            with_reducible rfl
          rotate_left
          · simp only [Act.put, List.setIfInBounds_toArray, List.set_cons_zero, List.set_cons_succ, i64_w, i32_w]
            rfl
          refine take_ (i := 10) (N := some 46) (v := ?_) (a' := ?_) #[true, true, true, false, false, true, true, false, false, true, true, false, false, false] rfl rfl (by kernel_rfl) (fun _ _ _ h => h) (Or.inl ⟨by rfl, ?_⟩) hHeld ?_ ?_
          rotate_left
          · rintro w' ⟨s0, s1, s2⟩
            go_simp
            with_reducible rfl
          rotate_left
          · simp only [Act.put, List.setIfInBounds_toArray, List.set_cons_zero, List.set_cons_succ, i64_w, i32_w]
            rfl
          refine one_ (i := 3) (N := some 39) #[true, true, true, true, false, true, true, false, false, true, true, false, false, false] rfl rfl (by kernel_rfl) (by decide) (fun K hK => ?_)
          refine goes_ Tryd.func52 (by kernel_rfl) rfl #[.int .i64 a] (by rfl) rfl rfl (by simp only [List.map_toArray, List.map_cons, List.map_nil]; rfl) ?_
          with_reducible refine (ru_calls a _ HA.out.1).mono ?_
          rintro e w6 ⟨A6, c6, rfl, -, hC, -, hb⟩
          have HO6 := Aside0.mk (Kd.R_below HOd.out hb)
          have HB6 := Aside0.mk (below_step HBd.out hb)
          have HC6 := Aside0.mk ((hb.block wr.heap.size (lt_of_block HCd.out)).trans HCd.out)
          have HX6 := Aside0.mk hC
          clear hC hb
          refine ⟨_, rfl, ?_⟩
          refine hK.out _ _ ⟨cell_of_row _ _ 3 _ _ _ HC6.out, cell_of_row _ _ 4 _ _ _ HC6.out, cell_of_row _ _ 5 _ _ _ HC6.out⟩ (fun hHeld => ?_)
          clear hK K
          refine norm_ (a' := ?_) ?_ ?_
          rotate_left
          · show Act.put _ (some 39) _ = _
            simp only [Act.put, List.setIfInBounds_toArray, List.set_cons_zero, List.set_cons_succ, i64_w, i32_w]
            rfl
          refine one_ (i := 4) (N := some 40) #[true, true, true, true, true, true, true, false, false, true, true, false, false, false] rfl rfl (by kernel_rfl) (by decide) (fun K hK => ?_)
          refine Kd.R_append_rows_step (Kd.int .u8) (w0 := w) w.heap.size (by rfl) (.tmp 36) (.tmp 39) 22 5 (.int .u8 0) 1 rfl Tryd.underlying22 infoB rfl (by decide) (by omega) v1 z1 (ub a.toNat) A6 (ub a.toNat).length c6 (fun _ => True) (fun _ => False) (by rfl) (by rfl) HO6.out HX6.out (fun _ _ h => h) (fun _ h => h.elim) (fun _ _ => trivial) HB6.out (below_size HB6.out) HLA.out ?_
          intro v7 w7 ho hb hg hat
          rw [HZ2.out] at ho
          have HO7 := Aside0.mk ho
          have HB7 := Aside0.mk hb
          have HC7 := Aside0.mk ((hg.block wr.heap.size (lt_of_block HC6.out) (fun h => own_ne (Kd.own_of_R HO6.out) HC6.out (by decide) h.symm)).trans HC6.out)
          clear ho hb hg hat
          refine hK.out _ _ ⟨cell_of_row _ _ 3 _ _ _ HC7.out, cell_of_row _ _ 4 _ _ _ HC7.out, cell_of_row _ _ 5 _ _ _ HC7.out⟩ (fun hHeld => ?_)
          clear hK K
          refine norm_ (a' := ?_) ?_ ?_
          rotate_left
          · show Act.put _ (some 40) _ = _
            simp only [Act.put, List.setIfInBounds_toArray, List.set_cons_zero, List.set_cons_succ, i64_w, i32_w]
            rfl
          refine one_ (i := 7) (N := some 43) #[true, true, true, true, true, true, true, true, false, true, true, false, false, false] rfl rfl (by kernel_rfl) (by decide) (fun K hK => ?_)
          refine goes_ Tryd.func52 (by kernel_rfl) rfl #[.int .i64 b] (by rfl) rfl rfl (by simp only [List.map_toArray, List.map_cons, List.map_nil]; rfl) ?_
          with_reducible refine (ru_calls b _ HA.out.2.1).mono ?_
          rintro e w8 ⟨A8, c8, rfl, -, hC, -, hb⟩
          have HO8 := Aside0.mk (Kd.R_below HO7.out hb)
          have HB8 := Aside0.mk (below_step HB7.out hb)
          have HC8 := Aside0.mk ((hb.block wr.heap.size (lt_of_block HC7.out)).trans HC7.out)
          have HX8 := Aside0.mk hC
          clear hC hb
          refine ⟨_, rfl, ?_⟩
          refine hK.out _ _ ⟨cell_of_row _ _ 3 _ _ _ HC8.out, cell_of_row _ _ 4 _ _ _ HC8.out, cell_of_row _ _ 5 _ _ _ HC8.out⟩ (fun hHeld => ?_)
          clear hK K
          refine norm_ (a' := ?_) ?_ ?_
          rotate_left
          · show Act.put _ (some 43) _ = _
            simp only [Act.put, List.setIfInBounds_toArray, List.set_cons_zero, List.set_cons_succ, i64_w, i32_w]
            rfl
          refine one_ (i := 8) (N := some 44) #[true, true, true, true, true, true, true, true, true, true, true, false, false, false] rfl rfl (by kernel_rfl) (by decide) (fun K hK => ?_)
          refine Kd.R_append_rows_step (Kd.int .u8) (w0 := w) w.heap.size (by rfl) (.tmp 40) (.tmp 43) 22 5 (.int .u8 0) 1 rfl Tryd.underlying22 infoB rfl (by decide) (by omega) v7 z2 (ub b.toNat) A8 (ub b.toNat).length c8 (fun _ => True) (fun _ => False) (by rfl) (by rfl) HO8.out HX8.out (fun _ _ h => h) (fun _ h => h.elim) (fun _ _ => trivial) HB8.out (below_size HB8.out) HLB.out ?_
          intro v9 w9 ho hb hg hat
          rw [HZ3.out] at ho
          have HO9 := Aside0.mk ho
          have HB9 := Aside0.mk hb
          have HC9 := Aside0.mk ((hg.block wr.heap.size (lt_of_block HC8.out) (fun h => own_ne (Kd.own_of_R HO8.out) HC8.out (by decide) h.symm)).trans HC8.out)
          clear ho hb hg hat
          refine hK.out _ _ ⟨cell_of_row _ _ 3 _ _ _ HC9.out, cell_of_row _ _ 4 _ _ _ HC9.out, cell_of_row _ _ 5 _ _ _ HC9.out⟩ (fun hHeld => ?_)
          clear hK K
          refine norm_ (a' := ?_) ?_ ?_
          rotate_left
          · show Act.put _ (some 44) _ = _
            simp only [Act.put, List.setIfInBounds_toArray, List.set_cons_zero, List.set_cons_succ, i64_w, i32_w]
            rfl
          refine one_ (i := 11) (N := some 47) #[true, true, true, true, true, true, true, true, true, true, true, true, false, false] rfl rfl (by kernel_rfl) (by decide) (fun K hK => ?_)
          refine goes_ Tryd.func52 (by kernel_rfl) rfl #[.int .i64 d] (by rfl) rfl rfl (by simp only [List.map_toArray, List.map_cons, List.map_nil]; rfl) ?_
          with_reducible refine (ru_calls d _ HA.out.2.2).mono ?_
          rintro e w10 ⟨A10, c10, rfl, -, hC, -, hb⟩
          have HO10 := Aside0.mk (Kd.R_below HO9.out hb)
          have HB10 := Aside0.mk (below_step HB9.out hb)
          have HC10 := Aside0.mk ((hb.block wr.heap.size (lt_of_block HC9.out)).trans HC9.out)
          have HX10 := Aside0.mk hC
          clear hC hb
          refine ⟨_, rfl, ?_⟩
          refine hK.out _ _ ⟨cell_of_row _ _ 3 _ _ _ HC10.out, cell_of_row _ _ 4 _ _ _ HC10.out, cell_of_row _ _ 5 _ _ _ HC10.out⟩ (fun hHeld => ?_)
          clear hK K
          refine norm_ (a' := ?_) ?_ ?_
          rotate_left
          · show Act.put _ (some 47) _ = _
            simp only [Act.put, List.setIfInBounds_toArray, List.set_cons_zero, List.set_cons_succ, i64_w, i32_w]
            rfl
          refine one_ (i := 12) (N := some 48) #[true, true, true, true, true, true, true, true, true, true, true, true, true, false] rfl rfl (by kernel_rfl) (by decide) (fun K hK => ?_)
          refine Kd.R_append_rows_step (Kd.int .u8) (w0 := w) w.heap.size (by rfl) (.tmp 44) (.tmp 47) 22 5 (.int .u8 0) 1 rfl Tryd.underlying22 infoB rfl (by decide) (by omega) v9 z3 (ub d.toNat) A10 (ub d.toNat).length c10 (fun _ => True) (fun _ => False) (by rfl) (by rfl) HO10.out HX10.out (fun _ _ h => h) (fun _ h => h.elim) (fun _ _ => trivial) HB10.out (below_size HB10.out) HLC.out ?_
          intro v11 w11 ho hb hg hat
          rw [HZ4.out.trans HSN.out] at ho
          have HO11 := Aside0.mk ho
          have HB11 := Aside0.mk hb
          have HC11 := Aside0.mk ((hg.block wr.heap.size (lt_of_block HC10.out) (fun h => own_ne (Kd.own_of_R HO10.out) HC10.out (by decide) h.symm)).trans HC10.out)
          clear ho hb hg hat
          refine hK.out _ _ ⟨cell_of_row _ _ 3 _ _ _ HC11.out, cell_of_row _ _ 4 _ _ _ HC11.out, cell_of_row _ _ 5 _ _ _ HC11.out⟩ (fun hHeld => ?_)
          clear hK K
          refine norm_ (a' := ?_) ?_ ?_
          rotate_left
          · show Act.put _ (some 48) _ = _
            simp only [Act.put, List.setIfInBounds_toArray, List.set_cons_zero, List.set_cons_succ, i64_w, i32_w]
            rfl
          refine pure_ (i := 13) (N := some 5) (v := ?_) (a' := ?_) #[true, true, true, true, true, true, true, true, true, true, true, true, true, true] rfl rfl (by kernel_rfl) (fun _ _ _ h => h) (Or.inl ⟨by rfl, ?_⟩) ?_ ?_
          rotate_left
          · intro w'
            go_simp
            with_reducible rfl
          rotate_left
          · simp only [Act.put, List.setIfInBounds_toArray, List.set_cons_zero, List.set_cons_succ, i64_w, i32_w]
            rfl
          refine done_ (by kernel_rfl) ?_

          clear hHeld
          go_wp2
          go_roundw
          case rel => exact ⟨j + 1, v11, by go_num, rfl, by omega, by omega, HO11, HB11⟩
          case measure => simp [RowKit.intOf]; omega
        · subst hk1
          have hf := HFIT.out
          simp only [fitsB] at hf
          rw [if_neg (by decide), if_neg (by decide), if_neg (by decide), if_neg (by decide), if_pos (by decide)] at hf
          simp only [Bool.and_eq_true] at hf
          have ha := isB_pos hf.1.1
          have hb := isB_pos hf.1.2.1
          have hd := isB_pos hf.1.2.2
          have HA := Aside0.mk (show (0 ≤ a ∧ a ≤ 9007199254740991) ∧ (0 ≤ b ∧ b ≤ 9007199254740991) ∧ (0 ≤ d ∧ d ≤ 9007199254740991) by have := HL.out; have := HM.out; omega)
          have h8 := ub_len8 a.toNat (by have := HA.out; omega)
          have h9 := ub_len8 b.toNat (by have := HA.out; omega)
          have h10 := ub_len8 d.toNat (by have := HA.out; omega)
          obtain ⟨z1, hz1⟩ : ∃ z1, out ++ [6] = z1 := ⟨_, rfl⟩
          have HZ1 := Aside0.mk hz1
          have HZL := Aside0.mk (show z1.length ≤ 1000000000001 by rw [← hz1, List.length_append]; have := HLE.out; simp; omega)
          obtain ⟨z2, hz2⟩ : ∃ z2, z1 ++ ub a.toNat = z2 := ⟨_, rfl⟩
          have HZ2 := Aside0.mk hz2
          obtain ⟨z3, hz3⟩ : ∃ z3, z2 ++ ub b.toNat = z3 := ⟨_, rfl⟩
          have HZ3 := Aside0.mk hz3
          have HZ4 := Aside0.mk (show z3 ++ ub d.toNat = out ++ constL ⟨6, t, n, a, b, d⟩ by rw [← hz3, ← hz2, ← hz1, constL_5 6 (by omega)]; simp)
          have HLA := Aside0.mk (show (z1.length + (ub a.toNat).length) * 1 ≤ 140737488355328 by have := HZL.out; omega)
          have HLB := Aside0.mk (show (z2.length + (ub b.toNat).length) * 1 ≤ 140737488355328 by rw [← hz2, List.length_append]; have := HZL.out; omega)
          have HLC := Aside0.mk (show (z3.length + (ub d.toNat).length) * 1 ≤ 140737488355328 by rw [← hz3, List.length_append, ← hz2, List.length_append]; have := HZL.out; omega)
          clear hz1 hz2 hz3 ha hb hd hf h8 h9 h10
          go_wp2_with (at_builtin; go_loud (refine print_append_num (w0 := w) w.heap.size rfl (.tmp 28) (.tmp 32) 22 5 .u8 1 rfl Tryd.underlying22 infoB (by decide) vv out 6 rfl (congrArg (fun s => Value.slice (some ⟨s, 0, none⟩) 1 1) (World.size_alloc (w := wr) _).symm) (HOW.out _) (HBW.out _) (HBPW.out _) HLE1.out ?_); intro v1 w5 ho hb hg hat; rw [HZ1.out] at ho; go_loud (have HO5 := Aside0.mk (Kd.R_of_own (enc := Value.int .u8) (h1 := fun _ => rfl) (ok := fun _ => True) ho (fun _ _ => trivial))); go_loud (have HB5 := Aside0.mk hb); go_loud (have hC5 := (hg.block wr.heap.size (HSZ.out _) HVL.out).trans (heap_alloc_new wr _)); go_loud (have HC5 := Aside0.mk hC5); go_loud (have c50 : w5.cell? ⟨wr.heap.size, 0, none⟩ = some (.int .i64 6) := cell_of_row _ _ 0 _ _ _ hC5); go_loud (have c53 : w5.cell? ⟨wr.heap.size, 3, none⟩ = some (.int .i64 a) := cell_of_row _ _ 3 _ _ _ hC5); go_loud (have c54 : w5.cell? ⟨wr.heap.size, 4, none⟩ = some (.int .i64 b) := cell_of_row _ _ 4 _ _ _ hC5); go_loud (have c55 : w5.cell? ⟨wr.heap.size, 5, none⟩ = some (.int .i64 d) := cell_of_row _ _ 5 _ _ _ hC5); clear ho hb hg hat hC5)
          have HOd := Aside0.mk (show Kd.R (Kd.int .u8) 5 w5.drew w.heap.size (fun _ => True) v1 z1 by apply Kd.R_drew; exact HO5.out)
          have HBd := Aside0.mk HB5.out.drew
          have HCd := Aside0.mk (show w5.drew.heap[wr.heap.size]? = _ from HC5.out)
          refine start_ (n := 14) (S := fun w' => w'.cell? ⟨wr.heap.size, 3, none⟩ = some (.int .i64 a) ∧ w'.cell? ⟨wr.heap.size, 4, none⟩ = some (.int .i64 b) ∧ w'.cell? ⟨wr.heap.size, 5, none⟩ = some (.int .i64 d)) (ds := []) #[false, false, false, false, false, false, false, false, false, false, false, false, false, false] (by kernel_rfl) rfl rfl ⟨show w5.drew.cell? _ = _ from c53, show w5.drew.cell? _ = _ from c54, show w5.drew.cell? _ = _ from c55⟩ (fun hHeld => ?_)
          refine pure_ (i := 0) (N := some 36) (v := ?_) (a' := ?_) #[true, false, false, false, false, false, false, false, false, false, false, false, false, false] rfl rfl (by kernel_rfl) (fun _ _ _ h => h) (Or.inl ⟨by rfl, ?_⟩) ?_ ?_
          rotate_left
          · intro w'
            go_simp
            with_reducible rfl
          rotate_left
          · simp only [Act.put, List.setIfInBounds_toArray, List.set_cons_zero, List.set_cons_succ, i64_w, i32_w]
            rfl
          refine pure_ (i := 1) (N := some 37) (v := ?_) (a' := ?_) #[true, true, false, false, false, false, false, false, false, false, false, false, false, false] rfl rfl (by kernel_rfl) (fun _ _ _ h => h) (Or.inl ⟨by rfl, ?_⟩) ?_ ?_
          rotate_left
          · intro w'
            go_simp
            with_reducible rfl
          rotate_left
          · simp only [Act.put, List.setIfInBounds_toArray, List.set_cons_zero, List.set_cons_succ, i64_w, i32_w]
            rfl
          refine pure_ (i := 5) (N := some 41) (v := ?_) (a' := ?_) #[true, true, false, false, false, true, false, false, false, false, false, false, false, false] rfl rfl (by kernel_rfl) (fun _ _ _ h => h) (Or.inl ⟨by rfl, ?_⟩) ?_ ?_
          rotate_left
          · intro w'
            go_simp
            with_reducible rfl
          rotate_left
          · simp only [Act.put, List.setIfInBounds_toArray, List.set_cons_zero, List.set_cons_succ, i64_w, i32_w]
            rfl
          refine pure_ (i := 9) (N := some 45) (v := ?_) (a' := ?_) #[true, true, false, false, false, true, false, false, false, true, false, false, false, false] rfl rfl (by kernel_rfl) (fun _ _ _ h => h) (Or.inl ⟨by rfl, ?_⟩) ?_ ?_
          rotate_left
          · intro w'
            go_simp
            with_reducible rfl
          rotate_left
          · simp only [Act.put, List.setIfInBounds_toArray, List.set_cons_zero, List.set_cons_succ, i64_w, i32_w]
            rfl
          refine take_ (i := 2) (N := some 38) (v := ?_) (a' := ?_) #[true, true, true, false, false, true, false, false, false, true, false, false, false, false] rfl rfl (by kernel_rfl) (fun _ _ _ h => h) (Or.inl ⟨by rfl, ?_⟩) hHeld ?_ ?_
          rotate_left
          · rintro w' ⟨s0, s1, s2⟩
            go_simp
            with_reducible rfl
          rotate_left
          · simp only [Act.put, List.setIfInBounds_toArray, List.set_cons_zero, List.set_cons_succ, i64_w, i32_w]
            rfl
          refine take_ (i := 6) (N := some 42) (v := ?_) (a' := ?_) #[true, true, true, false, false, true, true, false, false, true, false, false, false, false] rfl rfl (by kernel_rfl) (fun _ _ _ h => h) (Or.inl ⟨by rfl, ?_⟩) hHeld ?_ ?_
          rotate_left
          · rintro w' ⟨s0, s1, s2⟩
            go_simp
            with_reducible rfl
          rotate_left
          · simp only [Act.put, List.setIfInBounds_toArray, List.set_cons_zero, List.set_cons_succ, i64_w, i32_w]
            rfl
          refine take_ (i := 10) (N := some 46) (v := ?_) (a' := ?_) #[true, true, true, false, false, true, true, false, false, true, true, false, false, false] rfl rfl (by kernel_rfl) (fun _ _ _ h => h) (Or.inl ⟨by rfl, ?_⟩) hHeld ?_ ?_
          rotate_left
          · rintro w' ⟨s0, s1, s2⟩
            go_simp
            with_reducible rfl
          rotate_left
          · simp only [Act.put, List.setIfInBounds_toArray, List.set_cons_zero, List.set_cons_succ, i64_w, i32_w]
            rfl
          refine one_ (i := 3) (N := some 39) #[true, true, true, true, false, true, true, false, false, true, true, false, false, false] rfl rfl (by kernel_rfl) (by decide) (fun K hK => ?_)
          refine goes_ Tryd.func52 (by kernel_rfl) rfl #[.int .i64 a] (by rfl) rfl rfl (by simp only [List.map_toArray, List.map_cons, List.map_nil]; rfl) ?_
          with_reducible refine (ru_calls a _ HA.out.1).mono ?_
          rintro e w6 ⟨A6, c6, rfl, -, hC, -, hb⟩
          have HO6 := Aside0.mk (Kd.R_below HOd.out hb)
          have HB6 := Aside0.mk (below_step HBd.out hb)
          have HC6 := Aside0.mk ((hb.block wr.heap.size (lt_of_block HCd.out)).trans HCd.out)
          have HX6 := Aside0.mk hC
          clear hC hb
          refine ⟨_, rfl, ?_⟩
          refine hK.out _ _ ⟨cell_of_row _ _ 3 _ _ _ HC6.out, cell_of_row _ _ 4 _ _ _ HC6.out, cell_of_row _ _ 5 _ _ _ HC6.out⟩ (fun hHeld => ?_)
          clear hK K
          refine norm_ (a' := ?_) ?_ ?_
          rotate_left
          · show Act.put _ (some 39) _ = _
            simp only [Act.put, List.setIfInBounds_toArray, List.set_cons_zero, List.set_cons_succ, i64_w, i32_w]
            rfl
          refine one_ (i := 4) (N := some 40) #[true, true, true, true, true, true, true, false, false, true, true, false, false, false] rfl rfl (by kernel_rfl) (by decide) (fun K hK => ?_)
          refine Kd.R_append_rows_step (Kd.int .u8) (w0 := w) w.heap.size (by rfl) (.tmp 36) (.tmp 39) 22 5 (.int .u8 0) 1 rfl Tryd.underlying22 infoB rfl (by decide) (by omega) v1 z1 (ub a.toNat) A6 (ub a.toNat).length c6 (fun _ => True) (fun _ => False) (by rfl) (by rfl) HO6.out HX6.out (fun _ _ h => h) (fun _ h => h.elim) (fun _ _ => trivial) HB6.out (below_size HB6.out) HLA.out ?_
          intro v7 w7 ho hb hg hat
          rw [HZ2.out] at ho
          have HO7 := Aside0.mk ho
          have HB7 := Aside0.mk hb
          have HC7 := Aside0.mk ((hg.block wr.heap.size (lt_of_block HC6.out) (fun h => own_ne (Kd.own_of_R HO6.out) HC6.out (by decide) h.symm)).trans HC6.out)
          clear ho hb hg hat
          refine hK.out _ _ ⟨cell_of_row _ _ 3 _ _ _ HC7.out, cell_of_row _ _ 4 _ _ _ HC7.out, cell_of_row _ _ 5 _ _ _ HC7.out⟩ (fun hHeld => ?_)
          clear hK K
          refine norm_ (a' := ?_) ?_ ?_
          rotate_left
          · show Act.put _ (some 40) _ = _
            simp only [Act.put, List.setIfInBounds_toArray, List.set_cons_zero, List.set_cons_succ, i64_w, i32_w]
            rfl
          refine one_ (i := 7) (N := some 43) #[true, true, true, true, true, true, true, true, false, true, true, false, false, false] rfl rfl (by kernel_rfl) (by decide) (fun K hK => ?_)
          refine goes_ Tryd.func52 (by kernel_rfl) rfl #[.int .i64 b] (by rfl) rfl rfl (by simp only [List.map_toArray, List.map_cons, List.map_nil]; rfl) ?_
          with_reducible refine (ru_calls b _ HA.out.2.1).mono ?_
          rintro e w8 ⟨A8, c8, rfl, -, hC, -, hb⟩
          have HO8 := Aside0.mk (Kd.R_below HO7.out hb)
          have HB8 := Aside0.mk (below_step HB7.out hb)
          have HC8 := Aside0.mk ((hb.block wr.heap.size (lt_of_block HC7.out)).trans HC7.out)
          have HX8 := Aside0.mk hC
          clear hC hb
          refine ⟨_, rfl, ?_⟩
          refine hK.out _ _ ⟨cell_of_row _ _ 3 _ _ _ HC8.out, cell_of_row _ _ 4 _ _ _ HC8.out, cell_of_row _ _ 5 _ _ _ HC8.out⟩ (fun hHeld => ?_)
          clear hK K
          refine norm_ (a' := ?_) ?_ ?_
          rotate_left
          · show Act.put _ (some 43) _ = _
            simp only [Act.put, List.setIfInBounds_toArray, List.set_cons_zero, List.set_cons_succ, i64_w, i32_w]
            rfl
          refine one_ (i := 8) (N := some 44) #[true, true, true, true, true, true, true, true, true, true, true, false, false, false] rfl rfl (by kernel_rfl) (by decide) (fun K hK => ?_)
          refine Kd.R_append_rows_step (Kd.int .u8) (w0 := w) w.heap.size (by rfl) (.tmp 40) (.tmp 43) 22 5 (.int .u8 0) 1 rfl Tryd.underlying22 infoB rfl (by decide) (by omega) v7 z2 (ub b.toNat) A8 (ub b.toNat).length c8 (fun _ => True) (fun _ => False) (by rfl) (by rfl) HO8.out HX8.out (fun _ _ h => h) (fun _ h => h.elim) (fun _ _ => trivial) HB8.out (below_size HB8.out) HLB.out ?_
          intro v9 w9 ho hb hg hat
          rw [HZ3.out] at ho
          have HO9 := Aside0.mk ho
          have HB9 := Aside0.mk hb
          have HC9 := Aside0.mk ((hg.block wr.heap.size (lt_of_block HC8.out) (fun h => own_ne (Kd.own_of_R HO8.out) HC8.out (by decide) h.symm)).trans HC8.out)
          clear ho hb hg hat
          refine hK.out _ _ ⟨cell_of_row _ _ 3 _ _ _ HC9.out, cell_of_row _ _ 4 _ _ _ HC9.out, cell_of_row _ _ 5 _ _ _ HC9.out⟩ (fun hHeld => ?_)
          clear hK K
          refine norm_ (a' := ?_) ?_ ?_
          rotate_left
          · show Act.put _ (some 44) _ = _
            simp only [Act.put, List.setIfInBounds_toArray, List.set_cons_zero, List.set_cons_succ, i64_w, i32_w]
            rfl
          refine one_ (i := 11) (N := some 47) #[true, true, true, true, true, true, true, true, true, true, true, true, false, false] rfl rfl (by kernel_rfl) (by decide) (fun K hK => ?_)
          refine goes_ Tryd.func52 (by kernel_rfl) rfl #[.int .i64 d] (by rfl) rfl rfl (by simp only [List.map_toArray, List.map_cons, List.map_nil]; rfl) ?_
          with_reducible refine (ru_calls d _ HA.out.2.2).mono ?_
          rintro e w10 ⟨A10, c10, rfl, -, hC, -, hb⟩
          have HO10 := Aside0.mk (Kd.R_below HO9.out hb)
          have HB10 := Aside0.mk (below_step HB9.out hb)
          have HC10 := Aside0.mk ((hb.block wr.heap.size (lt_of_block HC9.out)).trans HC9.out)
          have HX10 := Aside0.mk hC
          clear hC hb
          refine ⟨_, rfl, ?_⟩
          refine hK.out _ _ ⟨cell_of_row _ _ 3 _ _ _ HC10.out, cell_of_row _ _ 4 _ _ _ HC10.out, cell_of_row _ _ 5 _ _ _ HC10.out⟩ (fun hHeld => ?_)
          clear hK K
          refine norm_ (a' := ?_) ?_ ?_
          rotate_left
          · show Act.put _ (some 47) _ = _
            simp only [Act.put, List.setIfInBounds_toArray, List.set_cons_zero, List.set_cons_succ, i64_w, i32_w]
            rfl
          refine one_ (i := 12) (N := some 48) #[true, true, true, true, true, true, true, true, true, true, true, true, true, false] rfl rfl (by kernel_rfl) (by decide) (fun K hK => ?_)
          refine Kd.R_append_rows_step (Kd.int .u8) (w0 := w) w.heap.size (by rfl) (.tmp 44) (.tmp 47) 22 5 (.int .u8 0) 1 rfl Tryd.underlying22 infoB rfl (by decide) (by omega) v9 z3 (ub d.toNat) A10 (ub d.toNat).length c10 (fun _ => True) (fun _ => False) (by rfl) (by rfl) HO10.out HX10.out (fun _ _ h => h) (fun _ h => h.elim) (fun _ _ => trivial) HB10.out (below_size HB10.out) HLC.out ?_
          intro v11 w11 ho hb hg hat
          rw [HZ4.out.trans HSN.out] at ho
          have HO11 := Aside0.mk ho
          have HB11 := Aside0.mk hb
          have HC11 := Aside0.mk ((hg.block wr.heap.size (lt_of_block HC10.out) (fun h => own_ne (Kd.own_of_R HO10.out) HC10.out (by decide) h.symm)).trans HC10.out)
          clear ho hb hg hat
          refine hK.out _ _ ⟨cell_of_row _ _ 3 _ _ _ HC11.out, cell_of_row _ _ 4 _ _ _ HC11.out, cell_of_row _ _ 5 _ _ _ HC11.out⟩ (fun hHeld => ?_)
          clear hK K
          refine norm_ (a' := ?_) ?_ ?_
          rotate_left
          · show Act.put _ (some 48) _ = _
            simp only [Act.put, List.setIfInBounds_toArray, List.set_cons_zero, List.set_cons_succ, i64_w, i32_w]
            rfl
          refine pure_ (i := 13) (N := some 5) (v := ?_) (a' := ?_) #[true, true, true, true, true, true, true, true, true, true, true, true, true, true] rfl rfl (by kernel_rfl) (fun _ _ _ h => h) (Or.inl ⟨by rfl, ?_⟩) ?_ ?_
          rotate_left
          · intro w'
            go_simp
            with_reducible rfl
          rotate_left
          · simp only [Act.put, List.setIfInBounds_toArray, List.set_cons_zero, List.set_cons_succ, i64_w, i32_w]
            rfl
          refine done_ (by kernel_rfl) ?_

          clear hHeld
          go_wp2
          go_roundw
          case rel => exact ⟨j + 1, v11, by go_num, rfl, by omega, by omega, HO11, HB11⟩
          case measure => simp [RowKit.intOf]; omega
    · have hltz : decide ((j : Int) < (m : Int)) = false := decide_eq_false (by omega)
      have hltz2 : ¬ (j : Int) < (m : Int) := by omega
      have he : ub m ++ ((l.drop 1).take (j - 1)).flatMap constL = R := by
        rw [List.take_of_length_le (by have := HLEN.out; omega), ← HRR.out, bytesL, HL.out]
      have HO := Aside0.mk (he ▸ HO3.out)
      clear he
      go_wp2
      repeat (go_quiet (fail); try go_wp2)
      go_ret2
      exact ⟨vv, rfl, HO.out, by first | exact HB3.out | exact pw_below_drewN HB3.out _⟩
end Go.Proofs.YtkhigagkgpfpfaaDoor.Ext

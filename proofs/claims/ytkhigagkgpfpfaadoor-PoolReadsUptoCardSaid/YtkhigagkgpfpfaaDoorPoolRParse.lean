/- The reference's Parse of package pool, walked. -/
import Derived.Test.YtkhigagkgpfpfaaDoorPoolRef2
import Derived.Test.YtkhigagkgpfpfaaDoorPoolMay
set_option linter.unusedVariables false
set_option linter.unusedSimpArgs false
namespace Go.Proofs.YtkhigagkgpfpfaaDoor.Ext.Rf
open Go.RowKit Go.Lib Go.Proofs.YtkhigagkgpfpfaaDoorW.PrintWords Go.Proofs.YtkhigagkgpfpfaaDoorW.PrintLast Go.Proofs.YtkhigagkgpfpfaaDoorW.PrintMore Go.Proofs.YtkhigagkgpfpfaaDoor.PLeb
attribute [local go_sem] max2_int min2_int max_two min_two max_three min_three max_four min_four

set_option maxHeartbeats 8000000 in
set_option maxRecDepth 100000 in
theorem parse_err {b0 b1 : List Int} {N : Nat} {A : Option Addr} {n c : Nat} {e1 : Int} (w : World) (hT : Tabs w) (hby : Bytes b0) (hm : b0.length ≤ 1000000000000) (hr : Kd.C (Kd.int .u8) w A b0.length b0) (hn : b0.length = n) (hc : n ≤ c) (hv : takeU b0 = ((N : Int), b1, e1)) (he1 : e1 ≠ 0) :
    Calls Tryd.prog 14 #[.slice A n c] w (ParsePost w.heap.size w (lastL (allL N b1 e1))) := by
  subst hn
  have hkp := takeU_keep hby
  rw [hv] at hkp
  obtain ⟨hb1, hbl1, -, hN53⟩ : Bytes b1 ∧ b1.length ≤ b0.length ∧ (0 : Int) ≤ (N : Int) ∧ (N : Int) ≤ 9007199254740991 := hkp
  have HBY := Aside0.mk hb1
  have HBY0 := Aside0.mk hby
  have HM1 := Aside0.mk (show b1.length ≤ 1000000000000 by omega)
  have HM0 := Aside0.mk hm
  have HT := Aside0.mk hT
  have HCP := Aside0.mk (copy_calls hr rfl hc (by omega))
  have HV := Aside0.mk (show numL takeU b0 0 = ((N : Int), b1, e1) by unfold numL; rw [if_pos rfl]; exact hv)
  obtain ⟨S, hS⟩ : ∃ S, allL N b1 e1 = S := ⟨_, rfl⟩
  rw [hS]
  have HALL := Aside0.mk hS
  have q1 : (e1 == 0) = false := beq_eq_false_iff_ne.2 he1
  have HN := Aside0.mk he1
  have HN53 := Aside0.mk hN53
  clear hT hby hm hr hc hv hb1 hbl1 hS hN53
  go_enter Tryd.func14, Tryd.ntmps14
  go_wp2_with fail
  refine HCP.out.mono ?_
  rintro y w1 ⟨v, rfl, ho, hb⟩
  obtain ⟨A1, c1, rfl, hl1, hC1⟩ := Kd.R_reads ho
  have hS0 : RS w.heap.size w1.heap.size (w1.alloc (.cells #[.slice A1 b0.length c1, .int .i64 0] 62)) b0 0 := ⟨A1, c1, heap_alloc_new w1 _, hl1, Kd.C_alloc hC1 _, (TB.own (v := .nilFunc) ho).below (below_alloc (Below.refl _ _) _)⟩
  have HN1 := Aside0.mk (u_calls hS0 HBY0.out (by have := HM0.out; omega) (Below.alloc hb hb.size _) hb.size HV.out)
  have HBR := Aside0.mk hb.size
  clear ho hb hl1 hC1 hS0 HCP
  go_wp2_with fail
  refine HN1.out.mono ?_
  rintro y w1' ⟨rfl, hS1, hB1, hK1⟩
  clear HN1 hK1
  generalize w1.heap.size = R at *
  have HS2 := Aside0.mk hS1
  have HB2 := Aside0.mk hB1
  obtain ⟨A1', c1', hR1, -, -, -⟩ := hS1
  have r1 : w1'.cell? ⟨R, 1, none⟩ = some (.int .i64 e1) := cell_of_row _ _ 1 _ _ _ hR1
  clear hB1 hR1 he1
  go_wp2
  go_loopw [8, 7] (fun i v wr => ∃ (k : Nat) (vv : Value) (l : List S35) (b : List Int) (e : Int), i = .int .i64 (k : Int) ∧ v = vv ∧ k ≤ N ∧ Aside0 (PInv N b1 e1 S k l b e) ∧ Aside0 (Kd.R k35 35 wr w.heap.size (fun j => j ≠ R) vv l) ∧ Aside0 (RS w.heap.size R wr b e) ∧ Aside0 (Below w.heap.size w wr)) (fun i _ _ => N - (RowKit.intOf i).toNat)
  case atStart => exact ⟨0, _, [], b1, e1, rfl, rfl, by omega, ⟨PInv.start HBY.out⟩, ⟨Kd.R_nil _ _ _ _ _⟩, HS2, HB2⟩
  case round =>
    obtain ⟨k, vv, l, b, e, rfl, hv', hk, HI, HO, HS3, HB3⟩ := hrel
    have hv'' := hv'.symm
    subst hv''
    clear HS2 HB2
    obtain ⟨A2, c2, hR3, hl2, hC2, -⟩ := HS3.out
    have r0 : wr.cell? ⟨R, 0, none⟩ = some (.slice A2 b.length c2) := cell_of_row _ _ 0 _ _ _ hR3
    have r1 : wr.cell? ⟨R, 1, none⟩ = some (.int .i64 e) := cell_of_row _ _ 1 _ _ _ hR3
    have hRl := lt_of_block hR3
    have HRL := Aside0.mk hRl
    clear hR3 hl2 hC2
    by_cases he : e = 0
    · subst he
      exact absurd HI.out.pe0 HN.out
    · have HEND := Aside0.mk (HI.out.done HALL.out (.inl he))
      have q1 : (e == 0) = false := beq_eq_false_iff_ne.2 he
      have q2 : (e != 0) = true := bne_iff_ne.2 he
      have HE := Aside0.mk he
      clear he
      by_cases hlt : k < N
      · have hltz : decide ((k : Int) < (N : Int)) = true := decide_eq_true (by omega)
        go_wp2
        repeat (go_quiet (fail); try go_wp2)
        go_ret3
        rw [HEND.out, lastL_bad HE.out]
        exact ⟨_, _, rfl, Kd.R_nil _ _ _ _ _, Kd.R_nil _ _ _ _ _, pw_below_drewN HB3.out _⟩
      · have hltz : decide ((k : Int) < (N : Int)) = false := decide_eq_false (by omega)
        go_wp2
        repeat (go_quiet (fail); try go_wp2)
        go_ret3
        rw [HEND.out, lastL_bad HE.out]
        exact ⟨_, _, rfl, Kd.R_nil _ _ _ _ _, Kd.R_nil _ _ _ _ _, pw_below_drewN HB3.out _⟩
set_option maxHeartbeats 8000000 in
set_option maxRecDepth 100000 in
theorem parse_far {b0 b1 : List Int} {N : Nat} {A : Option Addr} {n c : Nat} {e1 : Int} (w : World) (hT : Tabs w) (hby : Bytes b0) (hm : b0.length ≤ 1000000000000) (hr : Kd.C (Kd.int .u8) w A b0.length b0) (hn : b0.length = n) (hc : n ≤ c) (hv : takeU b0 = ((N : Int), b1, e1)) (he1 : e1 = 0) (hN : 4096 < N) :
    Calls Tryd.prog 14 #[.slice A n c] w (ParsePost w.heap.size w (lastL (allL N b1 5))) := by
  subst hn
  have hkp := takeU_keep hby
  rw [hv] at hkp
  obtain ⟨hb1, hbl1, -, hN53⟩ : Bytes b1 ∧ b1.length ≤ b0.length ∧ (0 : Int) ≤ (N : Int) ∧ (N : Int) ≤ 9007199254740991 := hkp
  have HBY := Aside0.mk hb1
  have HBY0 := Aside0.mk hby
  have HM1 := Aside0.mk (show b1.length ≤ 1000000000000 by omega)
  have HM0 := Aside0.mk hm
  have HT := Aside0.mk hT
  have HCP := Aside0.mk (copy_calls hr rfl hc (by omega))
  have HV := Aside0.mk (show numL takeU b0 0 = ((N : Int), b1, e1) by unfold numL; rw [if_pos rfl]; exact hv)
  obtain ⟨S, hS⟩ : ∃ S, allL N b1 5 = S := ⟨_, rfl⟩
  rw [hS]
  have HALL := Aside0.mk hS
  subst he1
  have q1 : decide ((4096 : Int) < (N : Int)) = true := decide_eq_true (by omega)
  have q2 : 4096 < N := hN
  have HN53 := Aside0.mk hN53
  clear hT hby hm hr hc hv hb1 hbl1 hS hN53
  go_enter Tryd.func14, Tryd.ntmps14
  go_wp2_with fail
  refine HCP.out.mono ?_
  rintro y w1 ⟨v, rfl, ho, hb⟩
  obtain ⟨A1, c1, rfl, hl1, hC1⟩ := Kd.R_reads ho
  have hS0 : RS w.heap.size w1.heap.size (w1.alloc (.cells #[.slice A1 b0.length c1, .int .i64 0] 62)) b0 0 := ⟨A1, c1, heap_alloc_new w1 _, hl1, Kd.C_alloc hC1 _, (TB.own (v := .nilFunc) ho).below (below_alloc (Below.refl _ _) _)⟩
  have HN1 := Aside0.mk (u_calls hS0 HBY0.out (by have := HM0.out; omega) (Below.alloc hb hb.size _) hb.size HV.out)
  have HBR := Aside0.mk hb.size
  clear ho hb hl1 hC1 hS0 HCP
  go_wp2_with fail
  refine HN1.out.mono ?_
  rintro y w1' ⟨rfl, hS1, hB1, hK1⟩
  clear HN1 hK1
  generalize w1.heap.size = R at *
  have HS2 := Aside0.mk (rs_err hS1 5)
  have HB2 := Aside0.mk (Below.setCell (p := ⟨R, 1, none⟩) hB1 HBR.out (.int .i64 5))
  obtain ⟨A1', c1', hR1, -, -, -⟩ := hS1
  have r1 : w1'.cell? ⟨R, 1, none⟩ = some (.int .i64 0) := cell_of_row _ _ 1 _ _ _ hR1
  have f1 := free_of_cells hR1 1
  clear hB1 hR1 hN
  go_wp2
  go_loopw [8, 7] (fun i v wr => ∃ (k : Nat) (vv : Value) (l : List S35) (b : List Int) (e : Int), i = .int .i64 (k : Int) ∧ v = vv ∧ k ≤ N ∧ Aside0 (PInv N b1 5 S k l b e) ∧ Aside0 (Kd.R k35 35 wr w.heap.size (fun j => j ≠ R) vv l) ∧ Aside0 (RS w.heap.size R wr b e) ∧ Aside0 (Below w.heap.size w wr)) (fun i _ _ => N - (RowKit.intOf i).toNat)
  case atStart => exact ⟨0, _, [], b1, 5, rfl, rfl, by omega, ⟨PInv.start HBY.out⟩, ⟨Kd.R_nil _ _ _ _ _⟩, HS2, HB2⟩
  case round =>
    obtain ⟨k, vv, l, b, e, rfl, hv', hk, HI, HO, HS3, HB3⟩ := hrel
    have hv'' := hv'.symm
    subst hv''
    clear HS2 HB2
    obtain ⟨A2, c2, hR3, hl2, hC2, -⟩ := HS3.out
    have r0 : wr.cell? ⟨R, 0, none⟩ = some (.slice A2 b.length c2) := cell_of_row _ _ 0 _ _ _ hR3
    have r1 : wr.cell? ⟨R, 1, none⟩ = some (.int .i64 e) := cell_of_row _ _ 1 _ _ _ hR3
    have hRl := lt_of_block hR3
    have HRL := Aside0.mk hRl
    clear hR3 hl2 hC2
    by_cases he : e = 0
    · subst he
      exact absurd HI.out.pe0 (by decide)
    · have HEND := Aside0.mk (HI.out.done HALL.out (.inl he))
      have q1 : (e == 0) = false := beq_eq_false_iff_ne.2 he
      have q2 : (e != 0) = true := bne_iff_ne.2 he
      have HE := Aside0.mk he
      clear he
      by_cases hlt : k < N
      · have hltz : decide ((k : Int) < (N : Int)) = true := decide_eq_true (by omega)
        go_wp2
        repeat (go_quiet (fail); try go_wp2)
        go_ret3
        rw [HEND.out, lastL_bad HE.out]
        exact ⟨_, _, rfl, Kd.R_nil _ _ _ _ _, Kd.R_nil _ _ _ _ _, pw_below_drewN HB3.out _⟩
      · have hltz : decide ((k : Int) < (N : Int)) = false := decide_eq_false (by omega)
        go_wp2
        repeat (go_quiet (fail); try go_wp2)
        go_ret3
        rw [HEND.out, lastL_bad HE.out]
        exact ⟨_, _, rfl, Kd.R_nil _ _ _ _ _, Kd.R_nil _ _ _ _ _, pw_below_drewN HB3.out _⟩
set_option maxHeartbeats 8000000 in
set_option maxRecDepth 100000 in
theorem parse_all {b0 b1 : List Int} {N : Nat} {A : Option Addr} {n c : Nat} {e1 : Int} (w : World) (hT : Tabs w) (hby : Bytes b0) (hm : b0.length ≤ 1000000000000) (hr : Kd.C (Kd.int .u8) w A b0.length b0) (hn : b0.length = n) (hc : n ≤ c) (hv : takeU b0 = ((N : Int), b1, e1)) (he1 : e1 = 0) (hN : N ≤ 4096) :
    Calls Tryd.prog 14 #[.slice A n c] w (ParsePost w.heap.size w (lastL (allL N b1 0))) := by
  subst hn
  have hkp := takeU_keep hby
  rw [hv] at hkp
  obtain ⟨hb1, hbl1, -, hN53⟩ : Bytes b1 ∧ b1.length ≤ b0.length ∧ (0 : Int) ≤ (N : Int) ∧ (N : Int) ≤ 9007199254740991 := hkp
  have HBY := Aside0.mk hb1
  have HBY0 := Aside0.mk hby
  have HM1 := Aside0.mk (show b1.length ≤ 1000000000000 by omega)
  have HM0 := Aside0.mk hm
  have HT := Aside0.mk hT
  have HCP := Aside0.mk (copy_calls hr rfl hc (by omega))
  have HV := Aside0.mk (show numL takeU b0 0 = ((N : Int), b1, e1) by unfold numL; rw [if_pos rfl]; exact hv)
  obtain ⟨S, hS⟩ : ∃ S, allL N b1 0 = S := ⟨_, rfl⟩
  rw [hS]
  have HALL := Aside0.mk hS
  subst he1
  have q1 : decide ((4096 : Int) < (N : Int)) = false := decide_eq_false (by omega)
  have q2 : ¬ 4096 < N := by omega
  have HN := Aside0.mk hN
  have HN53 := Aside0.mk hN53
  clear hT hby hm hr hc hv hb1 hbl1 hS hN53
  go_enter Tryd.func14, Tryd.ntmps14
  go_wp2_with fail
  refine HCP.out.mono ?_
  rintro y w1 ⟨v, rfl, ho, hb⟩
  obtain ⟨A1, c1, rfl, hl1, hC1⟩ := Kd.R_reads ho
  have hS0 : RS w.heap.size w1.heap.size (w1.alloc (.cells #[.slice A1 b0.length c1, .int .i64 0] 62)) b0 0 := ⟨A1, c1, heap_alloc_new w1 _, hl1, Kd.C_alloc hC1 _, (TB.own (v := .nilFunc) ho).below (below_alloc (Below.refl _ _) _)⟩
  have HN1 := Aside0.mk (u_calls hS0 HBY0.out (by have := HM0.out; omega) (Below.alloc hb hb.size _) hb.size HV.out)
  have HBR := Aside0.mk hb.size
  clear ho hb hl1 hC1 hS0 HCP
  go_wp2_with fail
  refine HN1.out.mono ?_
  rintro y w1' ⟨rfl, hS1, hB1, hK1⟩
  clear HN1 hK1
  generalize w1.heap.size = R at *
  have HS2 := Aside0.mk hS1
  have HB2 := Aside0.mk hB1
  obtain ⟨A1', c1', hR1, -, -, -⟩ := hS1
  have r1 : w1'.cell? ⟨R, 1, none⟩ = some (.int .i64 0) := cell_of_row _ _ 1 _ _ _ hR1
  clear hB1 hR1 hN
  go_wp2
  go_loopw [8, 7] (fun i v wr => ∃ (k : Nat) (vv : Value) (l : List S35) (b : List Int) (e : Int), i = .int .i64 (k : Int) ∧ v = vv ∧ k ≤ N ∧ Aside0 (PInv N b1 0 S k l b e) ∧ Aside0 (Kd.R k35 35 wr w.heap.size (fun j => j ≠ R) vv l) ∧ Aside0 (RS w.heap.size R wr b e) ∧ Aside0 (Below w.heap.size w wr)) (fun i _ _ => N - (RowKit.intOf i).toNat)
  case atStart => exact ⟨0, _, [], b1, 0, rfl, rfl, by omega, ⟨PInv.start HBY.out⟩, ⟨Kd.R_nil _ _ _ _ _⟩, HS2, HB2⟩
  case round =>
    obtain ⟨k, vv, l, b, e, rfl, hv', hk, HI, HO, HS3, HB3⟩ := hrel
    have hv'' := hv'.symm
    subst hv''
    clear HS2 HB2
    obtain ⟨A2, c2, hR3, hl2, hC2, -⟩ := HS3.out
    have r0 : wr.cell? ⟨R, 0, none⟩ = some (.slice A2 b.length c2) := cell_of_row _ _ 0 _ _ _ hR3
    have r1 : wr.cell? ⟨R, 1, none⟩ = some (.int .i64 e) := cell_of_row _ _ 1 _ _ _ hR3
    have hRl := lt_of_block hR3
    have HRL := Aside0.mk hRl
    clear hR3 hl2 hC2
    by_cases he : e = 0
    · subst he
      by_cases hlt : k < N
      · have hltz : decide ((k : Int) < (N : Int)) = true := decide_eq_true (by omega)
        have h4096 : N ≤ 4096 := HN.out
        have hk1 : ((k : Int) + 1) ≤ 4097 := by omega
        have HLL := Aside0.mk (show (l.length + 1) * 56 ≤ 140737488355328 by have := HI.out.len; omega)
        have HW0 := Aside0.mk (show w.heap.size ≤ wr.heap.size by have := HBR.out; omega)
        have HF0 := Aside0.mk (fun (k : Nat) (hk : wr.heap.size ≤ k) => show k ≠ R by omega)
        have HI2 := HI.out
        by_cases hk0 : k = 0
        · subst hk0
          have HI3 := Aside0.mk (HI2.first HALL.out hlt).2
          clear HI2
          go_wp2_with (at_builtin; go_loud (refine Kd.R_append k35 (w0 := w) w.heap.size rfl (.tmp 41) (.tmp 43) 24 35 (.agg #[.int .i64 0, .string ⟨#[]⟩, .int .i64 0, .int .i64 0, .int .i64 0, .int .i64 0]) 56 rfl Tryd.underlying24 info35 rfl sz35 by56 vv l zero35 [.int .i64 0, .string ⟨#[]⟩, .int .i64 0, .int .i64 0, .int .i64 0, .int .i64 0] (fun j => j ≠ R) (fun _ => False) rfl ?aX ?aP (fun _ hk => hk.elim) ?aF ?aO ?aB ?aS ?aL ?_); (case aX => rfl); (case aP => exact k35_mkM _ _ _ zero35); (case aF => exact HF0.out); (case aO => exact HO.out); (case aB => exact HB3.out); (case aS => exact HW0.out); (case aL => exact HLL.out); intro v1 w5 ho hb hg hat; go_loud (have HO5 := Aside0.mk ho); go_loud (have HB5 := Aside0.mk hb); go_loud (have HS5 := Aside0.mk (rs_grown HS3.out HO.out HO.out.1 hg)); clear ho hb hg hat)
          go_wp2
          go_roundw
          case rel => exact ⟨1, v1, l ++ [zero35], b, 0, rfl, rfl, by omega, HI3, HO5, HS5, HB5⟩
          case measure => simp [RowKit.intOf]; omega
        · have hkz : ((k : Int) == 0) = false := beq_eq_false_iff_ne.2 (by omega)
          have hkz' : ¬ k = 0 := hk0
          have hI3 := HI2.next (by omega) hlt HM1.out
          have hone := one_calls HS3.out HI2.1.1 (by have := HI2.1.2.1; have := HM1.out; omega) HB3.out HBR.out
          obtain ⟨⟨⟨x0, x1, x2, x3, x4, x5⟩, b', e'⟩, hx⟩ : ∃ r, oneL b = r := ⟨_, rfl⟩
          rw [hx] at hI3 hone
          have HI3 := Aside0.mk hI3
          have HONE := Aside0.mk hone
          clear HI2 hI3 hone hx
          go_wp2_with fail
          refine HONE.out.mono ?_
          rintro y w1' ⟨rfl, hS4, hB4, hK4⟩
          simp only [agg35]
          have hRl4 := rs_lt hS4
          have HS6 := Aside0.mk hS4
          have HB6 := Aside0.mk hB4
          have HO6 := Aside0.mk (row_keep HO.out hK4)
          have HW6 := Aside0.mk (show w.heap.size ≤ w1'.heap.size by have := HBR.out; omega)
          have HF6 := Aside0.mk (fun (k : Nat) (hk : w1'.heap.size ≤ k) => show k ≠ R by omega)
          clear hS4 hB4 hK4 hRl4
          go_wp2_with (at_builtin; go_loud (refine Kd.R_append k35 (w0 := w) w.heap.size rfl (.tmp 45) (.tmp 48) 24 35 (.agg #[.int .i64 0, .string ⟨#[]⟩, .int .i64 0, .int .i64 0, .int .i64 0, .int .i64 0]) 56 rfl Tryd.underlying24 info35 rfl sz35 by56 vv l ⟨x0, x1, x2, x3, x4, x5⟩ [.int .i64 x0, .string x1, .int .i64 x2, .int .i64 x3, .int .i64 x4, .int .i64 x5] (fun j => j ≠ R) (fun _ => False) rfl ?aX ?aP (fun _ hk => hk.elim) ?aF ?aO ?aB ?aS ?aL ?_); (case aX => rfl); (case aP => exact k35_mkM _ _ _ ⟨x0, x1, x2, x3, x4, x5⟩); (case aF => exact HF6.out); (case aO => exact HO6.out); (case aB => exact HB6.out); (case aS => exact HW6.out); (case aL => exact HLL.out); intro v1 w5 ho hb hg hat; go_loud (have HO5 := Aside0.mk ho); go_loud (have HB5 := Aside0.mk hb); go_loud (have HS5 := Aside0.mk (rs_grown HS6.out HO6.out HO.out.1 hg)); clear ho hb hg hat)
          go_wp2
          go_roundw
          case rel => exact ⟨k + 1, v1, l ++ [⟨x0, x1, x2, x3, x4, x5⟩], b', e', by go_num, rfl, by omega, HI3, HO5, HS5, HB5⟩
          case measure => simp [RowKit.intOf]; omega
      · have hltz : decide ((k : Int) < (N : Int)) = false := decide_eq_false (by omega)
        have HEND := Aside0.mk (HI.out.done HALL.out (.inr (by omega)))
        have hsm : Small l := fun x hx => by have := HI.out.1.2.2 x hx; have := HM1.out; omega
        have hlen := HI.out.len
        have hbl := HI.out.1.2.1
        have HBL := Aside0.mk hbl
        obtain ⟨AL, cl, rfl, hll, hCL⟩ := Kd.R_reads HO.out
        have hCK := rcheck_calls wr (below_tabs HT.out HB3.out) hsm hCL rfl hll (by have := HN53.out; omega)
        obtain ⟨ck, hck⟩ : ∃ ck, checkL l = ck := ⟨_, rfl⟩
        have HCKE := Aside0.mk hck
        rw [hck] at hCK
        have HCK := Aside0.mk hCK
        clear hCK hck hll hCL hlen hbl hsm
        go_wp2_with fail
        refine HCK.out.mono ?_
        rintro y w2 ⟨rfl, hb2⟩
        have hS4 := rs_below HS3.out hb2
        obtain ⟨A3, c3, hR4, hl4, hC4, -⟩ := hS4
        have s0 : w2.cell? ⟨R, 0, none⟩ = some (.slice A3 b.length c3) := cell_of_row _ _ 0 _ _ _ hR4
        have s1 : w2.cell? ⟨R, 1, none⟩ = some (.int .i64 0) := cell_of_row _ _ 1 _ _ _ hR4
        have g1 := free_of_cells hR4 1
        have HB4 := Aside0.mk (Below.setCell (p := ⟨R, 1, none⟩) (below_then HB3.out (by have := HBR.out; omega) hb2) HBR.out (.int .i64 ck))
        have HO4 := Aside0.mk (row_keep (Kd.R_below HO.out hb2) (KeepBut.set_ (KeepBut.refl w2 R none) 1 (.int .i64 ck)))
        have HW4 := Aside0.mk (show w.heap.size ≤ (w2.setCell ⟨R, 1, none⟩ (.int .i64 ck)).heap.size by rw [World.size_setCell]; have := hb2.size; have := HBR.out; omega)
        by_cases hc0 : ck = 0
        · subst hc0
          have HCL := Aside0.mk (copy_calls (w := w2.setCell ⟨R, 1, none⟩ (.int .i64 0)) (c_set hC4 hR4 1 (.int .i64 0)) rfl hl4 (by have := HBL.out; have := HM1.out; omega))
          clear hR4 hl4 hC4 hb2
          go_wp2_with fail
          refine HCL.out.mono ?_
          rintro y w4 ⟨v2, rfl, ho2, hb4⟩
          have HP := Aside0.mk (Kd.R_mono (ok' := fun _ => True) (Kd.R_below HO4.out hb4) (fun _ _ => trivial))
          have HQ := Aside0.mk (Kd.R_lower ho2 HW4.out)
          have HB5 := Aside0.mk (below_then HB4.out HW4.out hb4)
          clear ho2 hb4
          go_wp2
          go_ret3
          rw [HEND.out, lastL_ok HCKE.out]
          exact ⟨_, v2, rfl, HP.out, HQ.out, HB5.out⟩
        · have q1 : (ck == 0) = false := beq_eq_false_iff_ne.2 hc0
          have q2 : (ck != 0) = true := bne_iff_ne.2 hc0
          have HC0 := Aside0.mk hc0
          clear hR4 hl4 hC4 hb2 hc0
          go_wp2
          repeat (go_quiet (fail); try go_wp2)
          go_ret3
          rw [HEND.out, lastL_pool (by rw [HCKE.out]; exact HC0.out), HCKE.out]
          exact ⟨_, _, rfl, Kd.R_nil _ _ _ _ _, Kd.R_nil _ _ _ _ _, pw_below_drewN HB4.out _⟩
    · have HEND := Aside0.mk (HI.out.done HALL.out (.inl he))
      have q1 : (e == 0) = false := beq_eq_false_iff_ne.2 he
      have q2 : (e != 0) = true := bne_iff_ne.2 he
      have HE := Aside0.mk he
      clear he
      by_cases hlt : k < N
      · have hltz : decide ((k : Int) < (N : Int)) = true := decide_eq_true (by omega)
        go_wp2
        repeat (go_quiet (fail); try go_wp2)
        go_ret3
        rw [HEND.out, lastL_bad HE.out]
        exact ⟨_, _, rfl, Kd.R_nil _ _ _ _ _, Kd.R_nil _ _ _ _ _, pw_below_drewN HB3.out _⟩
      · have hltz : decide ((k : Int) < (N : Int)) = false := decide_eq_false (by omega)
        go_wp2
        repeat (go_quiet (fail); try go_wp2)
        go_ret3
        rw [HEND.out, lastL_bad HE.out]
        exact ⟨_, _, rfl, Kd.R_nil _ _ _ _ _, Kd.R_nil _ _ _ _ _, pw_below_drewN HB3.out _⟩
/-- the reference's Parse -/
theorem rparse_calls {b0 : List Int} {A : Option Addr} {n c : Nat} (w : World) (hT : Tabs w) (hby : Bytes b0) (hm : b0.length ≤ 1000000000000) (hr : Kd.C (Kd.int .u8) w A b0.length b0) (hn : b0.length = n) (hc : n ≤ c) :
    Calls Tryd.prog 14 #[.slice A n c] w (ParsePost w.heap.size w (parseL b0)) := by
  have hkp := takeU_keep hby
  obtain ⟨N, b1, e1, hv⟩ : ∃ (N : Int) (b1 : List Int) (e1 : Int), takeU b0 = (N, b1, e1) := ⟨_, _, _, rfl⟩
  rw [hv] at hkp
  obtain ⟨N, rfl⟩ : ∃ N' : Nat, N = (N' : Int) := ⟨N.toNat, (Int.toNat_of_nonneg hkp.2.2.1).symm⟩
  unfold parseL
  rw [hv]
  by_cases he : e1 = 0
  · by_cases hN : 4096 < N
    · have e : parseL1 ((N : Int), b1, e1) = lastL (allL N b1 5) := by
        subst he
        simp only [parseL1, allL]
        rw [if_pos trivial, if_pos (by omega), if_neg (by decide), lastL_bad (by decide)]
      rw [e]; exact parse_far w hT hby hm hr hn hc hv he hN
    · have e : parseL1 ((N : Int), b1, e1) = lastL (allL N b1 0) := by
        subst he
        simp only [parseL1, allL]
        rw [if_pos trivial, if_neg (by omega), if_pos trivial]
      rw [e]; exact parse_all w hT hby hm hr hn hc hv he (by omega)
  · have e : parseL1 ((N : Int), b1, e1) = lastL (allL N b1 e1) := by
      simp only [parseL1, allL]
      rw [if_neg he, if_neg he, lastL_bad he]
    rw [e]; exact parse_err w hT hby hm hr hn hc hv he
end Go.Proofs.YtkhigagkgpfpfaaDoor.Ext.Rf

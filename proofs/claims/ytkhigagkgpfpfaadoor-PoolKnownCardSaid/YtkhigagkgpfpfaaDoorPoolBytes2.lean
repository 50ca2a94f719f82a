/- pool.Bytes, walked: the loop. -/
import Derived.Test.YtkhigagkgpfpfaaDoorPoolSpec
import Derived.Laws.EntriesVeiled
set_option linter.unusedVariables false
set_option linter.unusedSimpArgs false
namespace Go.Proofs.YtkhigagkgpfpfaaDoor.Ext
open Go.RowKit Go.Lib Go.Proofs.YtkhigagkgpfpfaaDoorW.PrintWords Go.Proofs.YtkhigagkgpfpfaaDoorW.PrintLast Go.Proofs.YtkhigagkgpfpfaaDoorW.PrintMore Go.Proofs.YtkhigagkgpfpfaaDoor.PLeb
attribute [local go_sem] max2_int min2_int max_two min_two max_three min_three max_four min_four

theorem bytes_bad {l : List S35} {A : Option Addr} {n cap : Nat} (w : World) (hT : Tabs w) (hs : Small l) (hr : Kd.C k35 w A l.length l) (hn : l.length = n) (hc : n ≤ cap) (hm : n ≤ 9223372036854775807) (hk : checkL l ≠ 0) :
    Calls Tryd.prog 24 #[.slice A n cap] w fun e w' => e = .returned (.tuple #[.slice none 0 0, .int .i64 (checkL l)]) ∧ Below w.heap.size w w' := by
  have HC := Aside0.mk (check_calls w hT hs hr hn hc hm)
  clear hT hs hr hn hc hm
  obtain ⟨v, hv⟩ : ∃ v, checkL l = v := ⟨_, rfl⟩
  rw [hv] at HC hk ⊢
  have q1 : (v != 0) = true := bne_iff_ne.2 hk
  clear hk
  go_enter Tryd.func24, Tryd.ntmps24
  go_wp2_with fail
  refine HC.out.mono ?_
  rintro e w1 ⟨rfl, hb⟩
  have HB := Aside0.mk hb
  clear hb HC
  go_wp2
  go_ret2
  exact ⟨rfl, HB.out⟩
theorem make3 {w : World} {o1 o2 o3 : Obj} : (((w.alloc o1).alloc o2).alloc o3).heap[w.heap.size]? = some o1 ∧ (((w.alloc o1).alloc o2).alloc o3).heap[w.heap.size + 1]? = some o2 ∧ (((w.alloc o1).alloc o2).alloc o3).heap[w.heap.size + 2]? = some o3 := by
  refine ⟨?_, ?_, ?_⟩
  · rw [heap_alloc_old _ _ (by simp; omega), heap_alloc_old _ _ (by simp), heap_alloc_new]
  · rw [heap_alloc_old _ _ (by simp), show w.heap.size + 1 = (w.alloc o1).heap.size by simp, heap_alloc_new]
  · rw [show w.heap.size + 2 = ((w.alloc o1).alloc o2).heap.size by simp, heap_alloc_new]
theorem start_st {w w1 : World} {vZ : Value} {m : Int} (hb : Below w.heap.size w w1) :
    PutSt w.heap.size w1.heap.size (w1.heap.size + 1) ((((w1.alloc (.cells #[.slice none 0 0] 22)).alloc (.cells #[.int .i64 0] 25)).alloc (.cells #[vZ] 68)).alloc (.cells #[.int .i64 m] 3)) [] ∧
    Below w.heap.size w ((((w1.alloc (.cells #[.slice none 0 0] 22)).alloc (.cells #[.int .i64 0] 25)).alloc (.cells #[vZ] 68)).alloc (.cells #[.int .i64 m] 3)) ∧
    ((((w1.alloc (.cells #[.slice none 0 0] 22)).alloc (.cells #[.int .i64 0] 25)).alloc (.cells #[vZ] 68)).alloc (.cells #[.int .i64 m] 3)).heap[w1.heap.size + 1 + 1]? = some (.cells #[vZ] 68 (0, 0)) ∧
    ((((w1.alloc (.cells #[.slice none 0 0] 22)).alloc (.cells #[.int .i64 0] 25)).alloc (.cells #[vZ] 68)).alloc (.cells #[.int .i64 m] 3)).heap[w1.heap.size + 1 + 1 + 1]? = some (.cells #[.int .i64 m] 3 (0, 0)) := by
  have h3 := make3 (w := w1) (o1 := .cells #[.slice none 0 0] 22) (o2 := .cells #[.int .i64 0] 25) (o3 := .cells #[vZ] 68)
  have hs := hb.size
  refine ⟨⟨by omega, by omega, by omega, .slice none 0 0, ?_, ?_, own_nil _ _ _ _⟩, below_alloc (below_alloc (below_alloc (below_alloc hb _) _) _) _, ?_, ?_⟩
  · rw [heap_alloc_old _ _ (by simp; omega)]; exact h3.1
  · rw [heap_alloc_old _ _ (by simp)]; exact h3.2.1
  · rw [heap_alloc_old _ _ (by simp)]; exact h3.2.2
  · rw [show w1.heap.size + 1 + 1 + 1 = (((w1.alloc (.cells #[.slice none 0 0] 22)).alloc (.cells #[.int .i64 0] 25)).alloc (.cells #[vZ] 68)).heap.size by simp, heap_alloc_new]
theorem S_calls (n : Int) (w : World) (h0 : -9223372036854775808 ≤ n) (h1 : n ≤ 9223372036854775807) :
    Calls Tryd.prog 50 #[.int .i64 n] w fun e w' => ∃ (A : Option Addr) (c : Nat), e = .returned (.slice A (sb n).length c) ∧ (sb n).length ≤ c ∧ Kd.C (Kd.int .u8) w' A (sb n).length (sb n) ∧ Below w.heap.size w w' := by
  refine (leb_S.calls 10 n _ w (S_f 10 n (by omega) h0 h1)).mono ?_
  rintro e w' ⟨v, rfl, ho, hb⟩
  obtain ⟨A, c, rfl, hl, hC⟩ := Kd.R_reads ho
  exact ⟨A, c, rfl, hl, hC, hb⟩
theorem kept_row {P n base' : Nat} {w w' : World} {u v : Value} {xs : List Value} (hK : Kept5 P w w') (hP : w.heap[P]? = some (.cells #[v] 22 (0, 0))) (ho : w.ownsRow base' 5 1 u n xs) (hPb : P < base') (hv : ∀ g, v.ownBlock = some g → g < base') : w'.ownsRow base' 5 1 u n xs := by
  refine ⟨ho.1, ?_⟩
  rcases ho.2 with h | ⟨g, cap, cur, rfl, hg, hh, r⟩
  · exact .inl h
  · exact .inr ⟨g, cap, cur, rfl, hg, (hK.2 v hP).2 g _ hh (by omega) (fun e => by have := hv g e; omega), r⟩
set_option maxHeartbeats 16000000 in
set_option maxRecDepth 100000 in
theorem bytes_ok {l : List S35} {A : Option Addr} {n cap : Nat} (w : World) (hT : Tabs w) (hs : Tiny l) (hi : Ints l) (hr : Kd.C k35 w A l.length l) (hn : l.length = n) (hc : n ≤ cap) (hk : checkL l = 0) :
    Calls Tryd.prog 24 #[.slice A n cap] w fun e w' => ∃ v : Value, e = .returned (.tuple #[v, .int .i64 0]) ∧ w'.ownsRow w.heap.size 5 1 v (bytesL l).length (nums .u8 (bytesL l)) ∧ Below w.heap.size w w' := by
  subst hn
  obtain ⟨hpos, hmax, hfit, hz⟩ := checkL_ok hk
  have hcc := check_calls w hT hs.small hr rfl hc (by omega)
  rw [hk] at hcc
  have HCC := Aside0.mk hcc
  obtain ⟨A', hcut, hC'⟩ := slice35_from l A cap 1 (by omega) hc
  have hcut1 : ∀ W : World, (Instr.slice 24 (.slice A l.length cap) (some (.int .i64 1)) none none).run Tryd.prog W = .ok (.slice A' (l.length - 1) (cap - 1)) W := hcut
  have HR := Aside0.mk (hC' w hr)
  have HT := Aside0.mk hT
  have HS := Aside0.mk hs
  have HI := Aside0.mk hi
  have HF := Aside0.mk hfit
  have HM := Aside0.mk hmax
  have HP := Aside0.mk hpos
  clear hcc hcut hC' hT hs hi hr hk hz hfit hmax hpos hc
  obtain ⟨m, hm⟩ : ∃ m : Nat, l.length = m := ⟨_, rfl⟩
  rw [hm] at hcut1 HM HP ⊢
  have HL := Aside0.mk hm
  obtain ⟨R, hR⟩ : ∃ R, bytesL l = R := ⟨_, rfl⟩
  rw [hR]
  have HRR := Aside0.mk hR
  rw [hm] at HCC
  clear hm hR
  go_enter Tryd.func24, Tryd.ntmps24
  go_wp2_with fail
  refine HCC.out.mono ?_
  rintro e w1 ⟨rfl, hb⟩
  have HB := Aside0.mk hb
  have HBS := Aside0.mk hb.size
  clear hb HCC
  go_wp2_with fail
  have hst := start_st (m := (m : Int)) (vZ := .func (.func 46) #[] #[.pointer (some ⟨w1.heap.size, 0, none⟩), .pointer (some ⟨w1.heap.size + 1, 0, none⟩)]) HB.out
  refine (nums_calls (ns := [(m : Int)]) (z := ub m) hst.1 hst.2.1 (by have := HBS.out; simp; omega) hst.2.2.1 (by omega) hst.2.2.2 (by omega) rfl rfl (by intro x hx; simp at hx; subst hx; have := HM.out; omega) (by simp) (by simp) (by simp [ubs])).mono ?_
  rintro e w2 ⟨rfl, hS2, hB2, hK2, -⟩
  have HZ := Aside0.mk (hK2 _ _ hst.2.2.1 (fun h => by injection h; omega) (fun c fz h => by injection h with _ h _; exact absurd h (by decide)))
  have HZP := Aside0.mk (show w1.heap.size + 1 + 1 ≠ w1.heap.size by omega)
  have HS2 := Aside0.mk hS2
  have HB2 := Aside0.mk hB2
  clear hst hS2 hB2 hK2 HB HBS
  generalize w1.heap.size + 1 + 1 = Z at *
  generalize w1.heap.size + 1 = Q at *
  generalize w1.heap.size = P at *
  go_wp2
  have HLEN := Aside0.mk (show (l.drop 1).length = m - 1 by rw [List.length_drop, HL.out])
  go_loopw [28] (fun i wr => ∃ k : Int, i = .int .i64 k ∧ 0 ≤ k ∧ k ≤ ((m - 1 : Nat) : Int) ∧ Aside0 (PutSt w.heap.size P Q wr (ub m ++ ((l.drop 1).take k.toNat).flatMap constL)) ∧ Aside0 (Below w.heap.size w wr) ∧ Aside0 (wr.heap[Z]? = some (.cells #[.func (.func 46) #[] #[.pointer (some ⟨P, 0, none⟩), .pointer (some ⟨Q, 0, none⟩)]] 68 (0, 0)))) (fun i _ => (m - 1) - (RowKit.intOf i).toNat)
  case atStart => exact ⟨0, rfl, by omega, by omega, ⟨by rw [Int.toNat_zero, List.take_zero, List.flatMap_nil, List.append_nil]; exact HS2.out⟩, HB2, HZ⟩
  case round =>
    obtain ⟨k, rfl, hk0, hk, HS3, HB3, HZ3⟩ := hrel
    clear HS2 HB2 HZ
    by_cases hlt : k < ((m - 1 : Nat) : Int)
    · have hltz : decide (k < ((m - 1 : Nat) : Int)) = true := decide_eq_true hlt
      obtain ⟨ad, e0, x0, x1, x2, x3, x4, x5⟩ := at_T35 (Kd.C_below HR.out HB3.out) k hk0 (by have := HLEN.out; omega)
      subst e0
      have hkl : k.toNat < (l.drop 1).length := by have := HLEN.out; omega
      have hrd : rd_T35 (l.drop 1) k = (l.drop 1)[k.toNat] := by unfold rd_T35; rw [List.getD_eq_getElem?_getD, List.getElem?_eq_getElem hkl]; rfl
      have hmem : rd_T35 (l.drop 1) k ∈ l.drop 1 := by rw [hrd]; exact List.getElem_mem hkl
      have HFIT := Aside0.mk (HF.out _ hmem)
      have hsz := HS.out _ (List.mem_of_mem_drop hmem)
      have hin := HI.out _ (List.mem_of_mem_drop hmem)
      have hcl : ∀ c ∈ l.drop 1, (constL c).length ≤ 60000000 := fun c hc => const_len (by have := HL.out; have := HM.out; omega) (HF.out c hc) (HS.out c (List.mem_of_mem_drop hc)) (HI.out c (List.mem_of_mem_drop hc)).1 (HI.out c (List.mem_of_mem_drop hc)).2
      have hsn : (ub m ++ ((l.drop 1).take k.toNat).flatMap constL) ++ constL (rd_T35 (l.drop 1) k) = ub m ++ ((l.drop 1).take (k + 1).toNat).flatMap constL := by
        rw [show (k + 1).toNat = k.toNat + 1 by omega, flat_snoc _ _ hkl, hrd, List.append_assoc]
      have hfl := flat_len ((l.drop 1).take k.toNat) (fun c hc => hcl c (List.mem_of_mem_take hc))
      have hub := ub_len8 m (by have := HM.out; omega)
      have hlen : (ub m ++ ((l.drop 1).take k.toNat).flatMap constL).length ≤ 1000000000000 := by
        rw [List.length_append]; rw [List.length_take] at hfl; have := HLEN.out; have := HM.out; omega
      have HW := Aside0.mk (show wrap64 (k + 1) = k + 1 from wrap64_id _ (by omega) (by have := HM.out; omega))
      have HSN := Aside0.mk hsn
      have HLE := Aside0.mk hlen
      clear hsn hlen hfl hub hcl hmem hrd hkl
      generalize rd_T35 (l.drop 1) k = x at *
      obtain ⟨kk, t, n, a, b, d⟩ := x
      generalize ub m ++ ((l.drop 1).take k.toNat).flatMap constL = out at *
      obtain ⟨hpq, hbp, hbq, v, hP, hQ, hO⟩ := HS3.out
      have cP := cell_of_one hP
      have hPne : P ≠ wr.heap.size := by have := lt_of_block hP; omega
      have hPlt : P < wr.heap.size := lt_of_block hP
      have HPW := Aside0.mk (fun o => (heap_alloc_old wr o (lt_of_block hP)).trans hP)
      have HQW := Aside0.mk (fun o => (heap_alloc_old wr o (lt_of_block hQ)).trans hQ)
      have HZW := Aside0.mk (fun o => (heap_alloc_old wr o (lt_of_block HZ3.out)).trans HZ3.out)
      have HOW := Aside0.mk (fun o => World.ownsRow.alloc hO o)
      have HBW := Aside0.mk (fun o => below_alloc HB3.out o)
      have HVL := Aside0.mk (show some wr.heap.size ≠ v.ownBlock from fun h => by have := own_lt hO wr.heap.size h.symm; omega)
      have HBP := Aside0.mk (show w.heap.size ≤ wr.heap.size by have := lt_of_block hP; omega)
      have HPNV := Aside0.mk (show some P ≠ v.ownBlock from fun h => own_ne hO hP (by decide) h.symm)
      have HPLT := Aside0.mk (fun (o : Obj) => show P < (wr.alloc o).heap.size by rw [World.size_alloc]; omega)
      have HBPW := Aside0.mk (fun (o : Obj) => show w.heap.size ≤ (wr.alloc o).heap.size by rw [World.size_alloc]; have := HBP.out; omega)
      have HSZ := Aside0.mk (fun (o : Obj) => show wr.heap.size < (wr.alloc o).heap.size by rw [World.size_alloc]; omega)
      have HLE1 := Aside0.mk (show (out.length + 1) * 1 ≤ 140737488355328 by have := HLE.out; omega)
      clear hP hQ hO HS3 HB3 HZ3
      rcases fits_kinds HFIT.out with hk1 | hk1 | hk1 | hk1
      · subst hk1
        have hf1 := fits_1 HFIT.out
        have ht := hf1.1
        have h6 := mBytes_len ht
        have htz : t.size ≤ 8388608 := hsz
        have HENC := Aside0.mk (fun (w1 : World) (hT1 : Tabs w1) => enc_any t w1 (by omega) hT1 ht)
        obtain ⟨mb, hmb⟩ : ∃ mb, mBytes t = mb := ⟨_, rfl⟩
        rw [hmb] at HENC h6
        have HMB := Aside0.mk (show mb.length ≤ 50331648 by omega)
        obtain ⟨z1, hz1⟩ : ∃ z1, out ++ [1] = z1 := ⟨_, rfl⟩
        have HZ1 := Aside0.mk hz1
        obtain ⟨z2, hz2⟩ : ∃ z2, z1 ++ ubs [(mb.length : Int)] = z2 := ⟨_, rfl⟩
        have HZ2 := Aside0.mk hz2
        have HZ3 := Aside0.mk (show z2 ++ mb = out ++ constL ⟨1, t, n, a, b, d⟩ by rw [← hz2, ← hz1, constL_1, hmb]; simp [ubs])
        have HZL := Aside0.mk (show z1.length ≤ 1000000000001 by rw [← hz1, List.length_append]; have := HLE.out; simp; omega)
        have HZL2 := Aside0.mk (show z2.length ≤ 1000000000010 by
          have h8 := ub_len8 mb.length (by have := HMB.out; omega)
          have h9 := HZL.out
          rw [← hz2, List.length_append, show ubs [(mb.length : Int)] = ub mb.length by simp [ubs]]; omega)
        clear hz1 hz2 hmb h6 hf1 ht htz
        go_wp2_with (at_builtin; go_loud (refine print_append_num (w0 := w) w.heap.size rfl (.tmp 32) (.tmp 36) 22 5 .u8 1 rfl Tryd.underlying22 infoB (by decide) v out 1 rfl (congrArg (fun s => Value.slice (some ⟨s, 0, none⟩) 1 1) (World.size_alloc (w := wr) _).symm) (HOW.out _) (HBW.out _) (HBPW.out _) HLE1.out ?_); intro v1 w5 ho hb hg hat; rw [HZ1.out] at ho; obtain ⟨A1, c1, rfl⟩ := own_slice ho; go_loud (have hE := put1_end hpq hbp hbq (HOW.out _) (HPW.out _) (HQW.out _) ho hb hg); go_loud (have HE := Aside0.mk hE); go_loud (have HC6 := Aside0.mk (hE.2.2 _ _ (heap_alloc_new wr _) (fun h => hPne (Option.some.inj h).symm) (fun c fz h => by injection h with _ h _; exact absurd h (by decide)))); go_loud (have HZ5 := Aside0.mk (hE.2.2 _ _ (HZW.out _) (fun h => HZP.out (Option.some.inj h)) (fun c fz h => by injection h with _ h _; exact absurd h (by decide)))); go_loud (have hP5 := (hg.block P (HPLT.out _) HPNV.out).trans (HPW.out _)); go_loud (have cP5 := cell_of_one hP5); go_loud (have fP5 := free_of_one hP5); go_loud (have hC5 := (hg.block wr.heap.size (HSZ.out _) HVL.out).trans (heap_alloc_new wr _)); go_loud (have c50 : w5.cell? ⟨wr.heap.size, 0, none⟩ = some (.int .i64 1) := cell_of_row _ _ 0 _ _ _ hC5); go_loud (have c51 : w5.cell? ⟨wr.heap.size, 1, none⟩ = some (.string t) := cell_of_row _ _ 1 _ _ _ hC5); clear hE ho hb hg hat hP5 hC5)
        generalize w5.setCell ⟨P, 0, none⟩ (.slice A1 z1.length c1) = w6 at *
        have c61 : w6.cell? ⟨wr.heap.size, 1, none⟩ = some (.string t) := cell_of_row _ _ 1 _ _ _ HC6.out
        have hp6 := lt_of_block HE.out.1.2.2.2.choose_spec.1
        have hbs6 : w.heap.size ≤ w6.heap.size := by have := HE.out.1.2.1; omega
        refine (HENC.out _ (HT.out.below HE.out.2.1)).mono ?_
        rintro e w7 ⟨A2, c2, rfl, hl2, ho2, hb2⟩
        obtain ⟨hpq6, hbp6, hbq6, v6, hP6, hQ6, hO6⟩ := HE.out.1
        have HS7a := Aside0.mk (HE.out.1.kept hb2)
        have HB7a := Aside0.mk (below_then HE.out.2.1 hbs6 hb2)
        have hZ7 := (hb2.block Z (lt_of_block HZ5.out)).trans HZ5.out
        have HZ7a := Aside0.mk hZ7
        have cZ7 := cell_of_one hZ7
        have HP7a := Aside0.mk ((hb2.block P hp6).trans hP6)
        have HO7a := Aside0.mk ho2
        have HOV := Aside0.mk (fun (g : Nat) (h : v6.ownBlock = some g) => own_lt hO6 g h)
        have HP6 := Aside0.mk hp6
        have HSZ7 := Aside0.mk hb2.size
        have HBS6 := Aside0.mk hbs6
        have HL2 := Aside0.mk hl2
        clear hl2 ho2 hb2 hpq6 hbp6 hbq6 hP6 hQ6 hO6 hZ7 hp6 hbs6 HENC
        go_wp2_with fail
        refine (nums_calls (ns := [(mb.length : Int)]) (C := #[.int .i64 (mb.length : Int)]) (z := z2) (HS7a.out.kept (below_alloc (Below.refl _ _) _)) (below_alloc HB7a.out _) (by rw [World.size_alloc]; have := HBS6.out; have := HSZ7.out; omega) ((heap_alloc_old _ _ (lt_of_block HZ7a.out)).trans HZ7a.out) HZP.out (heap_alloc_new w7 _) (by have := HP6.out; have := HSZ7.out; omega) rfl rfl (by intro x hx; simp at hx; subst hx; have := HMB.out; omega) (by simp) (by have := HZL.out; omega) HZ2.out).mono ?_
        rintro e w8 ⟨rfl, hS8, hB8, hK8, hJ8⟩
        have hZ8 := hK8 _ _ ((heap_alloc_old _ _ (lt_of_block HZ7a.out)).trans HZ7a.out) (fun h => HZP.out (Option.some.inj h)) (fun c fz h => by injection h with _ h _; exact absurd h (by decide))
        have cZ8 := cell_of_one hZ8
        have HZ8 := Aside0.mk hZ8
        have ho8 := kept_row hJ8 ((heap_alloc_old _ _ (lt_of_block HP7a.out)).trans HP7a.out) (World.ownsRow.alloc HO7a.out _) HP6.out HOV.out
        have HC8 := Aside0.mk ((Kd.R_reads' (Kd.R_of_own (enc := Value.int .u8) (h1 := fun _ => rfl) (ok := fun _ => True) ho8 (fun _ _ => trivial))).2.2)
        have HS8 := Aside0.mk hS8
        have HB8 := Aside0.mk hB8
        have HBS8 := Aside0.mk (show w.heap.size ≤ w8.heap.size by have h1 := hJ8.1; rw [World.size_alloc] at h1; have := HBS6.out; have := HSZ7.out; omega)
        clear hS8 hB8 hK8 hJ8 ho8 hZ8
        go_wp2_with fail
        refine (put_calls HS8.out HB8.out HBS8.out HC8.out rfl HL2.out (by have := HZL2.out; have := HMB.out; omega) (HZ3.out.trans HSN.out)).mono ?_
        rintro e w9 ⟨rfl, hS9, hB9, hK9, -⟩
        have HS9 := Aside0.mk hS9
        have HB9 := Aside0.mk hB9
        have HZ9 := Aside0.mk (hK9 _ _ HZ8.out (fun h => HZP.out (Option.some.inj h)) (fun c fz h => by injection h with _ h _; exact absurd h (by decide)))
        clear hS9 hB9 hK9
        go_wp2
        go_roundw
        case rel => exact ⟨k + 1, by first | rfl | rw [HW.out], by omega, by omega, HS9, HB9, HZ9⟩
        case measure => rw [HW.out]; simp [RowKit.intOf]; omega
      · rcases hk1 with hk1 | hk1
        · subst hk1
          have HN10 := Aside0.mk (sb_len10 n hin.1 hin.2)
          have HNS := Aside0.mk (fun w1 => S_calls n w1 hin.1 hin.2)
          obtain ⟨z1, hz1⟩ : ∃ z1, out ++ [2] = z1 := ⟨_, rfl⟩
          have HZ1 := Aside0.mk hz1
          have HZ2 := Aside0.mk (show z1 ++ sb n = out ++ constL ⟨2, t, n, a, b, d⟩ by rw [← hz1]; simp [constL])
          have HZL := Aside0.mk (show z1.length ≤ 1000000000001 by rw [← hz1, List.length_append]; have := HLE.out; simp; omega)
          clear hz1
          go_wp2_with (at_builtin; go_loud (refine print_append_num (w0 := w) w.heap.size rfl (.tmp 32) (.tmp 36) 22 5 .u8 1 rfl Tryd.underlying22 infoB (by decide) v out 2 rfl (congrArg (fun s => Value.slice (some ⟨s, 0, none⟩) 1 1) (World.size_alloc (w := wr) _).symm) (HOW.out _) (HBW.out _) (HBPW.out _) HLE1.out ?_); intro v1 w5 ho hb hg hat; rw [HZ1.out] at ho; obtain ⟨A1, c1, rfl⟩ := own_slice ho; go_loud (have hE := put1_end hpq hbp hbq (HOW.out _) (HPW.out _) (HQW.out _) ho hb hg); go_loud (have HE := Aside0.mk hE); go_loud (have HC6 := Aside0.mk (hE.2.2 _ _ (heap_alloc_new wr _) (fun h => hPne (Option.some.inj h).symm) (fun c fz h => by injection h with _ h _; exact absurd h (by decide)))); go_loud (have HZ5 := Aside0.mk (hE.2.2 _ _ (HZW.out _) (fun h => HZP.out (Option.some.inj h)) (fun c fz h => by injection h with _ h _; exact absurd h (by decide)))); go_loud (have hP5 := (hg.block P (HPLT.out _) HPNV.out).trans (HPW.out _)); go_loud (have cP5 := cell_of_one hP5); go_loud (have fP5 := free_of_one hP5); go_loud (have hC5 := (hg.block wr.heap.size (HSZ.out _) HVL.out).trans (heap_alloc_new wr _)); go_loud (have c50 : w5.cell? ⟨wr.heap.size, 0, none⟩ = some (.int .i64 2) := cell_of_row _ _ 0 _ _ _ hC5); go_loud (have c53 : w5.cell? ⟨wr.heap.size, 3, none⟩ = some (.int .i64 a) := cell_of_row _ _ 3 _ _ _ hC5); clear hE ho hb hg hat hP5 hC5)
          generalize w5.setCell ⟨P, 0, none⟩ (.slice A1 z1.length c1) = w6 at *
          have c62 : w6.cell? ⟨wr.heap.size, 2, none⟩ = some (.int .i64 n) := cell_of_row _ _ 2 _ _ _ HC6.out
          have c6Z := cell_of_one HZ5.out
          have HSd := Aside0.mk (HE.out.1.kept (Below.drew (Below.refl _ _)))
          have HBd := Aside0.mk HE.out.2.1.drew
          have HZd := Aside0.mk (show w6.drew.heap[Z]? = _ from HZ5.out)
          have HCd := Aside0.mk (show w6.drew.heap[wr.heap.size]? = _ from HC6.out)
          have HBSd := Aside0.mk (show w.heap.size ≤ w6.drew.heap.size from Nat.le_of_lt (Nat.lt_of_le_of_lt HE.out.1.2.1 (lt_of_block HE.out.1.2.2.2.choose_spec.1)))
          have HLN := Aside0.mk (show z1.length + (sb n).length ≤ 140737488355000 by have := HZL.out; have := HN10.out; omega)
          have HZP2 := Aside0.mk (show ∀ (h : some Z = some P), False from fun h => HZP.out (Option.some.inj h))
          go_region_with (first
            | (go_at_call 50; refine (HNS.out _).mono ?_; rintro e w7 ⟨A2, c2, rfl, hl1, hC1, hb1⟩; have HL1 := Aside0.mk hl1; have HC1 := Aside0.mk hC1; have HS2 := Aside0.mk (HSd.out.kept hb1); have HB2 := Aside0.mk (below_then HBd.out HBSd.out hb1); have HZ2b := Aside0.mk ((hb1.block Z (lt_of_block HZd.out)).trans HZd.out); have HBS2 := Aside0.mk (Nat.le_trans HBSd.out hb1.size); have cZ1 := cell_of_one HZ2b.out; clear hl1 hC1 hb1)
            | (go_at_call 46; refine (put_calls HS2.out HB2.out HBS2.out HC1.out rfl HL1.out HLN.out (HZ2.out.trans HSN.out)).mono ?_; rintro e w8 ⟨rfl, hS3, hB3, hK3, -⟩; have HS7 := Aside0.mk hS3; have HB7 := Aside0.mk hB3; have HZ7 := Aside0.mk (hK3 _ _ HZ2b.out (fun h => HZP2.out h) (fun c fz h => by injection h with _ h _; exact absurd h (by decide))); clear hS3 hB3 hK3))
          all_goals go_wp2
          all_goals go_roundw
          all_goals first | exact ⟨k + 1, by first | rfl | rw [HW.out], by omega, by omega, HS7, HB7, HZ7⟩ | (rw [HW.out]; simp [RowKit.intOf]; omega)
        · subst hk1
          have HN10 := Aside0.mk (sb_len10 n hin.1 hin.2)
          have HNS := Aside0.mk (fun w1 => S_calls n w1 hin.1 hin.2)
          obtain ⟨z1, hz1⟩ : ∃ z1, out ++ [3] = z1 := ⟨_, rfl⟩
          have HZ1 := Aside0.mk hz1
          have HZ2 := Aside0.mk (show z1 ++ sb n = out ++ constL ⟨3, t, n, a, b, d⟩ by rw [← hz1]; simp [constL])
          have HZL := Aside0.mk (show z1.length ≤ 1000000000001 by rw [← hz1, List.length_append]; have := HLE.out; simp; omega)
          clear hz1
          go_wp2_with (at_builtin; go_loud (refine print_append_num (w0 := w) w.heap.size rfl (.tmp 32) (.tmp 36) 22 5 .u8 1 rfl Tryd.underlying22 infoB (by decide) v out 3 rfl (congrArg (fun s => Value.slice (some ⟨s, 0, none⟩) 1 1) (World.size_alloc (w := wr) _).symm) (HOW.out _) (HBW.out _) (HBPW.out _) HLE1.out ?_); intro v1 w5 ho hb hg hat; rw [HZ1.out] at ho; obtain ⟨A1, c1, rfl⟩ := own_slice ho; go_loud (have hE := put1_end hpq hbp hbq (HOW.out _) (HPW.out _) (HQW.out _) ho hb hg); go_loud (have HE := Aside0.mk hE); go_loud (have HC6 := Aside0.mk (hE.2.2 _ _ (heap_alloc_new wr _) (fun h => hPne (Option.some.inj h).symm) (fun c fz h => by injection h with _ h _; exact absurd h (by decide)))); go_loud (have HZ5 := Aside0.mk (hE.2.2 _ _ (HZW.out _) (fun h => HZP.out (Option.some.inj h)) (fun c fz h => by injection h with _ h _; exact absurd h (by decide)))); go_loud (have hP5 := (hg.block P (HPLT.out _) HPNV.out).trans (HPW.out _)); go_loud (have cP5 := cell_of_one hP5); go_loud (have fP5 := free_of_one hP5); go_loud (have hC5 := (hg.block wr.heap.size (HSZ.out _) HVL.out).trans (heap_alloc_new wr _)); go_loud (have c50 : w5.cell? ⟨wr.heap.size, 0, none⟩ = some (.int .i64 3) := cell_of_row _ _ 0 _ _ _ hC5); go_loud (have c53 : w5.cell? ⟨wr.heap.size, 3, none⟩ = some (.int .i64 a) := cell_of_row _ _ 3 _ _ _ hC5); clear hE ho hb hg hat hP5 hC5)
          generalize w5.setCell ⟨P, 0, none⟩ (.slice A1 z1.length c1) = w6 at *
          have c62 : w6.cell? ⟨wr.heap.size, 2, none⟩ = some (.int .i64 n) := cell_of_row _ _ 2 _ _ _ HC6.out
          have c6Z := cell_of_one HZ5.out
          have HSd := Aside0.mk (HE.out.1.kept (Below.drew (Below.refl _ _)))
          have HBd := Aside0.mk HE.out.2.1.drew
          have HZd := Aside0.mk (show w6.drew.heap[Z]? = _ from HZ5.out)
          have HCd := Aside0.mk (show w6.drew.heap[wr.heap.size]? = _ from HC6.out)
          have HBSd := Aside0.mk (show w.heap.size ≤ w6.drew.heap.size from Nat.le_of_lt (Nat.lt_of_le_of_lt HE.out.1.2.1 (lt_of_block HE.out.1.2.2.2.choose_spec.1)))
          have HLN := Aside0.mk (show z1.length + (sb n).length ≤ 140737488355000 by have := HZL.out; have := HN10.out; omega)
          have HZP2 := Aside0.mk (show ∀ (h : some Z = some P), False from fun h => HZP.out (Option.some.inj h))
          go_region_with (first
            | (go_at_call 50; refine (HNS.out _).mono ?_; rintro e w7 ⟨A2, c2, rfl, hl1, hC1, hb1⟩; have HL1 := Aside0.mk hl1; have HC1 := Aside0.mk hC1; have HS2 := Aside0.mk (HSd.out.kept hb1); have HB2 := Aside0.mk (below_then HBd.out HBSd.out hb1); have HZ2b := Aside0.mk ((hb1.block Z (lt_of_block HZd.out)).trans HZd.out); have HBS2 := Aside0.mk (Nat.le_trans HBSd.out hb1.size); have cZ1 := cell_of_one HZ2b.out; clear hl1 hC1 hb1)
            | (go_at_call 46; refine (put_calls HS2.out HB2.out HBS2.out HC1.out rfl HL1.out HLN.out (HZ2.out.trans HSN.out)).mono ?_; rintro e w8 ⟨rfl, hS3, hB3, hK3, -⟩; have HS7 := Aside0.mk hS3; have HB7 := Aside0.mk hB3; have HZ7 := Aside0.mk (hK3 _ _ HZ2b.out (fun h => HZP2.out h) (fun c fz h => by injection h with _ h _; exact absurd h (by decide))); clear hS3 hB3 hK3))
          all_goals go_wp2
          all_goals go_roundw
          all_goals first | exact ⟨k + 1, by first | rfl | rw [HW.out], by omega, by omega, HS7, HB7, HZ7⟩ | (rw [HW.out]; simp [RowKit.intOf]; omega)
      · subst hk1
        have ha := isB_pos (l := l) (i := a) (k := 1) (by have := HFIT.out; simp [fitsB] at this; exact this.1)
        have HA := Aside0.mk (show 0 ≤ a ∧ a ≤ 9007199254740991 by have := HL.out; have := HM.out; omega)
        obtain ⟨z1, hz1⟩ : ∃ z1, out ++ [4] = z1 := ⟨_, rfl⟩
        have HZ1 := Aside0.mk hz1
        have HZ2 := Aside0.mk (show z1 ++ ubs [a] = out ++ constL ⟨4, t, n, a, b, d⟩ by rw [← hz1]; simp [constL, ubs])
        have HZL := Aside0.mk (show z1.length ≤ 1000000000001 by rw [← hz1, List.length_append]; have := HLE.out; simp; omega)
        clear hz1 ha
        go_wp2_with (at_builtin; go_loud (refine print_append_num (w0 := w) w.heap.size rfl (.tmp 32) (.tmp 36) 22 5 .u8 1 rfl Tryd.underlying22 infoB (by decide) v out 4 rfl (congrArg (fun s => Value.slice (some ⟨s, 0, none⟩) 1 1) (World.size_alloc (w := wr) _).symm) (HOW.out _) (HBW.out _) (HBPW.out _) HLE1.out ?_); intro v1 w5 ho hb hg hat; rw [HZ1.out] at ho; obtain ⟨A1, c1, rfl⟩ := own_slice ho; go_loud (have hE := put1_end hpq hbp hbq (HOW.out _) (HPW.out _) (HQW.out _) ho hb hg); go_loud (have HE := Aside0.mk hE); go_loud (have HZ5 := Aside0.mk (hE.2.2 _ _ (HZW.out _) (fun h => HZP.out (Option.some.inj h)) (fun c fz h => by injection h with _ h _; exact absurd h (by decide)))); go_loud (have hP5 := (hg.block P (HPLT.out _) HPNV.out).trans (HPW.out _)); go_loud (have cP5 := cell_of_one hP5); go_loud (have fP5 := free_of_one hP5); go_loud (have hC5 := (hg.block wr.heap.size (HSZ.out _) HVL.out).trans (heap_alloc_new wr _)); go_loud (have c50 : w5.cell? ⟨wr.heap.size, 0, none⟩ = some (.int .i64 4) := cell_of_row _ _ 0 _ _ _ hC5); go_loud (have c53 : w5.cell? ⟨wr.heap.size, 3, none⟩ = some (.int .i64 a) := cell_of_row _ _ 3 _ _ _ hC5); clear hE ho hb hg hat hP5 hC5)
        have hw6 : (w5.setCell ⟨P, 0, none⟩ (.slice A1 z1.length c1)).heap.size = w5.heap.size := World.size_setCell ..
        generalize w5.setCell ⟨P, 0, none⟩ (.slice A1 z1.length c1) = w6 at *
        have hp6 := lt_of_block HE.out.1.2.2.2.choose_spec.1
        refine (nums_calls (ns := [a]) (C := #[.int .i64 a]) (z := out ++ constL ⟨4, t, n, a, b, d⟩) (HE.out.1.kept (below_alloc (Below.refl _ _) _)) (below_alloc HE.out.2.1 _) (by rw [World.size_alloc]; have := HE.out.1.2.1; omega) ((heap_alloc_old _ _ (lt_of_block HZ5.out)).trans HZ5.out) HZP.out (by rw [← hw6]; exact heap_alloc_new w6 _) (by omega) rfl rfl (by intro x hx; simp at hx; subst hx; exact HA.out) (by simp) (by have := HZL.out; omega) HZ2.out).mono ?_
        rintro e w7 ⟨rfl, hS7, hB7, hK7, -⟩
        have HS7 := Aside0.mk (HSN.out ▸ hS7)
        have HB7 := Aside0.mk hB7
        have HZ7 := Aside0.mk (hK7 _ _ ((heap_alloc_old _ _ (lt_of_block HZ5.out)).trans HZ5.out) (fun h => HZP.out (Option.some.inj h)) (fun c fz h => by injection h with _ h _; exact absurd h (by decide)))
        clear hS7 hB7 hK7 hp6 hw6
        go_wp2
        go_roundw
        case rel => exact ⟨k + 1, by first | rfl | rw [HW.out], by omega, by omega, HS7, HB7, HZ7⟩
        case measure => rw [HW.out]; simp [RowKit.intOf]; omega
      · rcases hk1 with hk1 | hk1
        · subst hk1
          have hf := HFIT.out
          simp only [fitsB] at hf
          rw [if_neg (by decide), if_neg (by decide), if_neg (by decide), if_neg (by decide), if_pos (by decide)] at hf
          simp only [Bool.and_eq_true] at hf
          have ha := isB_pos hf.1.1
          have hb := isB_pos hf.1.2.1
          have hd := isB_pos hf.1.2.2
          have HA := Aside0.mk (show (0 ≤ a ∧ a ≤ 9007199254740991) ∧ (0 ≤ b ∧ b ≤ 9007199254740991) ∧ (0 ≤ d ∧ d ≤ 9007199254740991) by have := HL.out; have := HM.out; omega)
          obtain ⟨z1, hz1⟩ : ∃ z1, out ++ [5] = z1 := ⟨_, rfl⟩
          have HZ1 := Aside0.mk hz1
          have HZ2 := Aside0.mk (show z1 ++ ubs [a, b, d] = out ++ constL ⟨5, t, n, a, b, d⟩ by rw [← hz1]; simp [constL, ubs])
          have HZL := Aside0.mk (show z1.length ≤ 1000000000001 by rw [← hz1, List.length_append]; have := HLE.out; simp; omega)
          clear hz1 ha hb hd hf
          go_wp2_with (at_builtin; go_loud (refine print_append_num (w0 := w) w.heap.size rfl (.tmp 32) (.tmp 36) 22 5 .u8 1 rfl Tryd.underlying22 infoB (by decide) v out 5 rfl (congrArg (fun s => Value.slice (some ⟨s, 0, none⟩) 1 1) (World.size_alloc (w := wr) _).symm) (HOW.out _) (HBW.out _) (HBPW.out _) HLE1.out ?_); intro v1 w5 ho hb hg hat; rw [HZ1.out] at ho; obtain ⟨A1, c1, rfl⟩ := own_slice ho; go_loud (have hE := put1_end hpq hbp hbq (HOW.out _) (HPW.out _) (HQW.out _) ho hb hg); go_loud (have HE := Aside0.mk hE); go_loud (have HZ5 := Aside0.mk (hE.2.2 _ _ (HZW.out _) (fun h => HZP.out (Option.some.inj h)) (fun c fz h => by injection h with _ h _; exact absurd h (by decide)))); go_loud (have hP5 := (hg.block P (HPLT.out _) HPNV.out).trans (HPW.out _)); go_loud (have cP5 := cell_of_one hP5); go_loud (have fP5 := free_of_one hP5); go_loud (have hC5 := (hg.block wr.heap.size (HSZ.out _) HVL.out).trans (heap_alloc_new wr _)); go_loud (have c50 : w5.cell? ⟨wr.heap.size, 0, none⟩ = some (.int .i64 5) := cell_of_row _ _ 0 _ _ _ hC5); go_loud (have c53 : w5.cell? ⟨wr.heap.size, 3, none⟩ = some (.int .i64 a) := cell_of_row _ _ 3 _ _ _ hC5); go_loud (have c54 : w5.cell? ⟨wr.heap.size, 4, none⟩ = some (.int .i64 b) := cell_of_row _ _ 4 _ _ _ hC5); go_loud (have c55 : w5.cell? ⟨wr.heap.size, 5, none⟩ = some (.int .i64 d) := cell_of_row _ _ 5 _ _ _ hC5); clear hE ho hb hg hat hP5 hC5)
          have hw6 : (w5.setCell ⟨P, 0, none⟩ (.slice A1 z1.length c1)).heap.size = w5.heap.size := World.size_setCell ..
          generalize w5.setCell ⟨P, 0, none⟩ (.slice A1 z1.length c1) = w6 at *
          have hp6 := lt_of_block HE.out.1.2.2.2.choose_spec.1
          refine (nums_calls (ns := [a, b, d]) (C := #[.int .i64 a, .int .i64 b, .int .i64 d]) (z := out ++ constL ⟨5, t, n, a, b, d⟩) (HE.out.1.kept (below_alloc (Below.refl _ _) _)) (below_alloc HE.out.2.1 _) (by rw [World.size_alloc]; have := HE.out.1.2.1; omega) ((heap_alloc_old _ _ (lt_of_block HZ5.out)).trans HZ5.out) HZP.out (by rw [← hw6]; exact heap_alloc_new w6 _) (by omega) rfl rfl (by intro x hx; simp at hx; rcases hx with h | h | h <;> rw [h]; exact HA.out.1; exact HA.out.2.1; exact HA.out.2.2) (by simp) (by have := HZL.out; omega) HZ2.out).mono ?_
          rintro e w7 ⟨rfl, hS7, hB7, hK7, -⟩
          have HS7 := Aside0.mk (HSN.out ▸ hS7)
          have HB7 := Aside0.mk hB7
          have HZ7 := Aside0.mk (hK7 _ _ ((heap_alloc_old _ _ (lt_of_block HZ5.out)).trans HZ5.out) (fun h => HZP.out (Option.some.inj h)) (fun c fz h => by injection h with _ h _; exact absurd h (by decide)))
          clear hS7 hB7 hK7 hp6 hw6
          go_wp2
          go_roundw
          case rel => exact ⟨k + 1, by first | rfl | rw [HW.out], by omega, by omega, HS7, HB7, HZ7⟩
          case measure => rw [HW.out]; simp [RowKit.intOf]; omega
        · subst hk1
          have hf := HFIT.out
          simp only [fitsB] at hf
          rw [if_neg (by decide), if_neg (by decide), if_neg (by decide), if_neg (by decide), if_pos (by decide)] at hf
          simp only [Bool.and_eq_true] at hf
          have ha := isB_pos hf.1.1
          have hb := isB_pos hf.1.2.1
          have hd := isB_pos hf.1.2.2
          have HA := Aside0.mk (show (0 ≤ a ∧ a ≤ 9007199254740991) ∧ (0 ≤ b ∧ b ≤ 9007199254740991) ∧ (0 ≤ d ∧ d ≤ 9007199254740991) by have := HL.out; have := HM.out; omega)
          obtain ⟨z1, hz1⟩ : ∃ z1, out ++ [6] = z1 := ⟨_, rfl⟩
          have HZ1 := Aside0.mk hz1
          have HZ2 := Aside0.mk (show z1 ++ ubs [a, b, d] = out ++ constL ⟨6, t, n, a, b, d⟩ by rw [← hz1]; simp [constL, ubs])
          have HZL := Aside0.mk (show z1.length ≤ 1000000000001 by rw [← hz1, List.length_append]; have := HLE.out; simp; omega)
          clear hz1 ha hb hd hf
          go_wp2_with (at_builtin; go_loud (refine print_append_num (w0 := w) w.heap.size rfl (.tmp 32) (.tmp 36) 22 5 .u8 1 rfl Tryd.underlying22 infoB (by decide) v out 6 rfl (congrArg (fun s => Value.slice (some ⟨s, 0, none⟩) 1 1) (World.size_alloc (w := wr) _).symm) (HOW.out _) (HBW.out _) (HBPW.out _) HLE1.out ?_); intro v1 w5 ho hb hg hat; rw [HZ1.out] at ho; obtain ⟨A1, c1, rfl⟩ := own_slice ho; go_loud (have hE := put1_end hpq hbp hbq (HOW.out _) (HPW.out _) (HQW.out _) ho hb hg); go_loud (have HE := Aside0.mk hE); go_loud (have HZ5 := Aside0.mk (hE.2.2 _ _ (HZW.out _) (fun h => HZP.out (Option.some.inj h)) (fun c fz h => by injection h with _ h _; exact absurd h (by decide)))); go_loud (have hP5 := (hg.block P (HPLT.out _) HPNV.out).trans (HPW.out _)); go_loud (have cP5 := cell_of_one hP5); go_loud (have fP5 := free_of_one hP5); go_loud (have hC5 := (hg.block wr.heap.size (HSZ.out _) HVL.out).trans (heap_alloc_new wr _)); go_loud (have c50 : w5.cell? ⟨wr.heap.size, 0, none⟩ = some (.int .i64 6) := cell_of_row _ _ 0 _ _ _ hC5); go_loud (have c53 : w5.cell? ⟨wr.heap.size, 3, none⟩ = some (.int .i64 a) := cell_of_row _ _ 3 _ _ _ hC5); go_loud (have c54 : w5.cell? ⟨wr.heap.size, 4, none⟩ = some (.int .i64 b) := cell_of_row _ _ 4 _ _ _ hC5); go_loud (have c55 : w5.cell? ⟨wr.heap.size, 5, none⟩ = some (.int .i64 d) := cell_of_row _ _ 5 _ _ _ hC5); clear hE ho hb hg hat hP5 hC5)
          have hw6 : (w5.setCell ⟨P, 0, none⟩ (.slice A1 z1.length c1)).heap.size = w5.heap.size := World.size_setCell ..
          generalize w5.setCell ⟨P, 0, none⟩ (.slice A1 z1.length c1) = w6 at *
          have hp6 := lt_of_block HE.out.1.2.2.2.choose_spec.1
          refine (nums_calls (ns := [a, b, d]) (C := #[.int .i64 a, .int .i64 b, .int .i64 d]) (z := out ++ constL ⟨6, t, n, a, b, d⟩) (HE.out.1.kept (below_alloc (Below.refl _ _) _)) (below_alloc HE.out.2.1 _) (by rw [World.size_alloc]; have := HE.out.1.2.1; omega) ((heap_alloc_old _ _ (lt_of_block HZ5.out)).trans HZ5.out) HZP.out (by rw [← hw6]; exact heap_alloc_new w6 _) (by omega) rfl rfl (by intro x hx; simp at hx; rcases hx with h | h | h <;> rw [h]; exact HA.out.1; exact HA.out.2.1; exact HA.out.2.2) (by simp) (by have := HZL.out; omega) HZ2.out).mono ?_
          rintro e w7 ⟨rfl, hS7, hB7, hK7, -⟩
          have HS7 := Aside0.mk (HSN.out ▸ hS7)
          have HB7 := Aside0.mk hB7
          have HZ7 := Aside0.mk (hK7 _ _ ((heap_alloc_old _ _ (lt_of_block HZ5.out)).trans HZ5.out) (fun h => HZP.out (Option.some.inj h)) (fun c fz h => by injection h with _ h _; exact absurd h (by decide)))
          clear hS7 hB7 hK7 hp6 hw6
          go_wp2
          go_roundw
          case rel => exact ⟨k + 1, by first | rfl | rw [HW.out], by omega, by omega, HS7, HB7, HZ7⟩
          case measure => rw [HW.out]; simp [RowKit.intOf]; omega
    · have hltz : decide (k < ((m - 1 : Nat) : Int)) = false := decide_eq_false hlt
      obtain ⟨hpq, hbp, hbq, v, hP, hQ, hO⟩ := HS3.out
      have he : ub m ++ ((l.drop 1).take k.toNat).flatMap constL = R := by
        rw [List.take_of_length_le (by have := HLEN.out; omega), ← HRR.out, bytesL, HL.out]
      rw [he] at hO
      have HO := Aside0.mk hO
      have cP := cell_of_one hP
      have cQ := cell_of_one hQ
      clear hP hQ hO hpq hbp hbq he
      go_wp2
      repeat (go_quiet (fail); try go_wp2)
      go_ret2
      exact ⟨v, rfl, HO.out, HB3.out⟩
end Go.Proofs.YtkhigagkgpfpfaaDoor.Ext

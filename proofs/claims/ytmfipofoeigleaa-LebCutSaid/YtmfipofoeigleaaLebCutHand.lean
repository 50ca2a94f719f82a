/- The law LebCut, walked by hand: every call's answer is known. -/
import Derived.Test.YtmfipofoeigleaaLebSpec2
import Derived.Test.YtmfipofoeigleaaLebWorks
import Derived.OpenShut
set_option linter.unusedVariables false
set_option linter.unusedSimpArgs false
namespace Go.Proofs.Ytmfipofoeigleaa.Ext
open Go.RowKit Go.Proofs.YtmfipofoeigleaaW.PrintWords Go.Proofs.YtmfipofoeigleaaW.PrintLast Go.Proofs.YtmfipofoeigleaaW.PrintMore Go.Proofs.Ytmfipofoeigleaa.PLeb
attribute [local go_sem] max2_int min2_int max_two min_two max_three min_three max_four min_four

theorem takeBig_cut (l : List Int) (s : Int) (h1 : 1 ≤ s) (h7 : s ≤ 7) (hl : (l.length : Int) < s) : takeBig l s = (0, [], 3) := by
  unfold takeBig; rw [if_neg (by omega), if_pos hl]
theorem takeBigS_cut (l : List Int) (s : Int) (h1 : 1 ≤ s) (h7 : s ≤ 8) (hl : (l.length : Int) < s) : takeBigS l s = (0, [], 3) := by
  unfold takeBigS; rw [if_neg (by omega), if_pos hl]
theorem lenTake (l : List Int) (n : Nat) (h : n ≤ l.length) : (l.take n).length = n := by rw [List.length_take]; omega
section
variable {w : World} {A0 : Option Addr} {c0 : Nat}
theorem takeC (l : List Int) (n : Nat) (h : n ≤ l.length) (hC : Kd.C (Kd.int .u8) w A0 l.length l) : Kd.C (Kd.int .u8) w A0 (l.take n).length (l.take n) := Kd.C_take hC h
theorem cb_takeU (l : List Int) (n : Nat) (hr0 : Kd.C (Kd.int .u8) w A0 (l.take n).length (l.take n)) (hn : (l.take n).length = n) (hc : n ≤ c0) {r1 r3 : Int} {r2 : List Int} (h : leb_TakeU.f 20 (l.take n) = some (r1, r2, r3)) :
    Calls Try.prog 16 #[.slice A0 n c0] w fun e w' => ∃ v1_ : Value, e = .returned (.tuple #[.int .i64 r1, v1_, .int .i64 r3]) ∧ Kd.R (Kd.int .u8) 5 w' w.heap.size (fun _ => True) v1_ r2 ∧ Below w.heap.size w w' := by
  have := leb_TakeU.calls 20 A0 c0 (l.take n) r1 r2 r3 w hr0 (by omega) h
  rwa [hn] at this
theorem cb_takeS (l : List Int) (n : Nat) (hr0 : Kd.C (Kd.int .u8) w A0 (l.take n).length (l.take n)) (hn : (l.take n).length = n) (hc : n ≤ c0) {r1 r3 : Int} {r2 : List Int} (h : leb_TakeS.f 20 (l.take n) = some (r1, r2, r3)) :
    Calls Try.prog 18 #[.slice A0 n c0] w fun e w' => ∃ v1_ : Value, e = .returned (.tuple #[.int .i64 r1, v1_, .int .i64 r3]) ∧ Kd.R (Kd.int .u8) 5 w' w.heap.size (fun _ => True) v1_ r2 ∧ Below w.heap.size w w' := by
  have := leb_TakeS.calls 20 A0 c0 (l.take n) r1 r2 r3 w hr0 (by omega) h
  rwa [hn] at this
theorem cb_takeBig (l : List Int) (n : Nat) (hr0 : Kd.C (Kd.int .u8) w A0 (l.take n).length (l.take n)) (hn : (l.take n).length = n) (hc : n ≤ c0) {a1 r1 r3 : Int} {r2 : List Int} (h : leb_TakeBig.f (l.take n) a1 = some (r1, r2, r3)) :
    Calls Try.prog 26 #[.slice A0 n c0, .int .i64 a1] w fun e w' => ∃ v1_ : Value, e = .returned (.tuple #[.int .i64 r1, v1_, .int .i64 r3]) ∧ Kd.R (Kd.int .u8) 5 w' w.heap.size (fun _ => True) v1_ r2 ∧ Below w.heap.size w w' := by
  have := leb_TakeBig.calls A0 c0 (l.take n) a1 r1 r2 r3 w hr0 (by omega) h
  rwa [hn] at this
theorem cb_takeBigS (l : List Int) (n : Nat) (hr0 : Kd.C (Kd.int .u8) w A0 (l.take n).length (l.take n)) (hn : (l.take n).length = n) (hc : n ≤ c0) {a1 r1 r3 : Int} {r2 : List Int} (h : leb_TakeBigS.f (l.take n) a1 = some (r1, r2, r3)) :
    Calls Try.prog 28 #[.slice A0 n c0, .int .i64 a1] w fun e w' => ∃ v1_ : Value, e = .returned (.tuple #[.int .i64 r1, v1_, .int .i64 r3]) ∧ Kd.R (Kd.int .u8) 5 w' w.heap.size (fun _ => True) v1_ r2 ∧ Below w.heap.size w w' := by
  have := leb_TakeBigS.calls A0 c0 (l.take n) a1 r1 r2 r3 w hr0 (by omega) h
  rwa [hn] at this
end
set_option maxHeartbeats 8000000 in
set_option maxRecDepth 100000 in
theorem cut_walk0 (a0 a1 a2 : Int) (s tu ts tb : Nat) (x y : Int) (U S B : List Int) (w : World)
    (h1 : R0_Bring.f a0 9007199254740992 = some x) (h2 : leb_U.f 20 x = some (U, 0)) (h3 : leb_S.f 20 a0 = some S) (h4 : R0_Bring.f a1 7 = some ((s : Int) - 1)) (hs : 1 ≤ s) (hs7 : s ≤ 7)
    (h5 : R0_Bring.f a0 (2 ^ (8 * s - 1)) = some y) (h6 : leb_Big.f y (s : Int) = some (B, 0)) (hU : 1 ≤ U.length) (hUl : U.length ≤ 8) (hS : 1 ≤ S.length) (hSl : S.length ≤ 10) (hB : B.length = s)
    (h7 : R0_Bring.f a2 (U.length : Int) = some (tu : Int)) (h8 : R0_Bring.f a2 (S.length : Int) = some (ts : Int)) (h9 : R0_Bring.f a2 (s : Int) = some (tb : Int))
    (u0 : tu < U.length) (s0 : ts < S.length) (b0 : tb < s)
    (k1 : leb_TakeU.f 20 (U.take tu) = some (0, [], 3)) (k2 : leb_TakeS.f 20 (S.take ts) = some (0, [], 3)) (k3 : leb_TakeBig.f (B.take tb) (s : Int) = some (0, [], 3)) (k4 : leb_TakeBigS.f (B.take tb) (s : Int) = some (0, [], 3)) :
    Calls Try.prog 7 #[.int .i64 a0, .int .i64 a1, .int .i64 a2] w fun e w' => e = .returned (.bool true) ∧ Below w.heap.size w w' := by
  have HB := Aside0.mk (Below.refl w.heap.size w)
  have hp := pow_pos2 (8 * s - 1)
  have hp2 : (2 : Int) ^ (8 * s - 1) ≤ 2 ^ 55 := pow_le2 (8 * s - 1) 55 (by omega)
  have E1 := Aside0.mk (show 1 + ((s : Int) - 1) = (s : Int) by omega)
  have E2 := Aside0.mk (show 1 + (s - 1) = s by omega)
  have E3 := Aside0.mk (show wrap64 ((2 : Int) ^ (8 * s - 1)) = 2 ^ (8 * s - 1) from wrap64_id _ (by omega) (by omega))
  clear hp hp2
  have H1 := Aside0.mk h1; have H2 := Aside0.mk h2; have H3 := Aside0.mk h3; have H4 := Aside0.mk h4; have H5 := Aside0.mk h5; have H6 := Aside0.mk h6; have H7 := Aside0.mk h7; have H8 := Aside0.mk h8; have H9 := Aside0.mk h9
  have K1 := Aside0.mk k1; have K2 := Aside0.mk k2; have K3 := Aside0.mk k3; have K4 := Aside0.mk k4
  have HBl := Aside0.mk hB
  clear h1 h2 h3 h4 h5 h6 h7 h8 h9 k1 k2 k3 k4 hB
  go_enter Try.func7, Try.ntmps7
  go_wp2_with fail
  refine (L1_works.calls true _ rfl).mono ?_
  rintro e w1 ⟨rfl, hb⟩
  have n0_ := Aside0.mk (below_step HB.out hb); clear HB hb; have HB := n0_; clear n0_
  go_wp2_with fail
  refine (R0_Bring.calls _ _ _ _ H1.out).mono ?_
  rintro e w2 ⟨rfl, hd⟩
  have n0_ := Aside0.mk (below_step HB.out hd.below); clear HB hd; have HB := n0_; clear n0_
  go_wp2_with fail
  refine (leb_U.calls 20 _ _ _ _ H2.out).mono ?_
  rintro e w3 ⟨v, rfl, ho, hb⟩
  have n0_ := Aside0.mk (below_step HB.out hb); clear HB; have HB := n0_; clear n0_
  obtain ⟨AU, cU, rfl, hl_, hC_⟩ := Kd.R_reads ho
  have LU := Aside0.mk hl_; have CU := Aside0.mk hC_; have WU := Aside0.mk (Below.refl w3.heap.size w3)
  clear ho hb hl_ hC_
  go_wp2_with fail
  refine (leb_S.calls 20 _ _ _ H3.out).mono ?_
  rintro e w4 ⟨v, rfl, ho, hb⟩
  have n0_ := Aside0.mk (below_step HB.out hb); clear HB; have HB := n0_; clear n0_
  have n0_ := Aside0.mk (below_step WU.out hb); clear WU; have WU := n0_; clear n0_
  obtain ⟨AS, cS, rfl, hl_, hC_⟩ := Kd.R_reads ho
  have LS := Aside0.mk hl_; have CS := Aside0.mk hC_; have WS := Aside0.mk (Below.refl w4.heap.size w4)
  clear ho hb hl_ hC_
  go_wp2_with fail
  refine (R0_Bring.calls _ _ _ _ H4.out).mono ?_
  rintro e w5 ⟨rfl, hd⟩
  have n0_ := Aside0.mk (below_step HB.out hd.below); clear HB; have HB := n0_; clear n0_
  have n0_ := Aside0.mk (below_step WU.out hd.below); clear WU; have WU := n0_; clear n0_
  have n0_ := Aside0.mk (below_step WS.out hd.below); clear WS; have WS := n0_; clear n0_
  clear hd
  go_wp2_with fail
  simp only [E1.out, E2.out, E3.out]
  refine (R0_Bring.calls _ _ _ _ H5.out).mono ?_
  rintro e w6 ⟨rfl, hd⟩
  have n0_ := Aside0.mk (below_step HB.out hd.below); clear HB; have HB := n0_; clear n0_
  have n0_ := Aside0.mk (below_step WU.out hd.below); clear WU; have WU := n0_; clear n0_
  have n0_ := Aside0.mk (below_step WS.out hd.below); clear WS; have WS := n0_; clear n0_
  clear hd
  go_wp2_with fail
  refine (leb_Big.calls _ _ _ _ _ H6.out).mono ?_
  rintro e w7 ⟨v, rfl, ho, hb⟩
  have n0_ := Aside0.mk (below_step HB.out hb); clear HB; have HB := n0_; clear n0_
  have n0_ := Aside0.mk (below_step WU.out hb); clear WU; have WU := n0_; clear n0_
  have n0_ := Aside0.mk (below_step WS.out hb); clear WS; have WS := n0_; clear n0_
  obtain ⟨AB, cB, rfl, hl_, hC_⟩ := Kd.R_reads ho
  rw [HBl.out] at hl_
  have LB := Aside0.mk hl_; have CB := Aside0.mk hC_; have WB := Aside0.mk (Below.refl w7.heap.size w7)
  clear ho hb hl_ hC_
  rw [HBl.out]
  go_wp2_with fail
  · exfalso; rename_i h; rw [h] at hU; simp at hU
  · exfalso; rename_i h; rw [h] at hS; simp at hS
  · exfalso; rename_i h; rcases h with h | h <;> · have := beq_iff_eq.1 h; omega
  obtain ⟨i0, hi0, hz0, hz1, hz2⟩ := info_parts info5
  have hcut : ∀ (A : Option Addr) (n c j : Nat), j ≤ n → n ≤ c → ∀ W : World, (Instr.slice 22 (.slice A n c) none (some (.int .i64 (j : Int))) none).run Try.prog W = .ok (.slice A j c) W := fun A n c j h1 h2 =>
    cut_to 22 5 .i64 Try.underlying22 hi0 A n c (j : Int) (Int.natCast_nonneg _) (by omega) h2
  have cutU := hcut AU U.length cU tu (by omega) LU.out
  have cutS := hcut AS S.length cS ts (by omega) LS.out
  have cutB := hcut AB s cB tb (by omega) LB.out
  clear hcut hi0 hz0 hz1 hz2
  have hUl' : tu ≤ U.length := by omega
  have hSl' : ts ≤ S.length := by omega
  have hBl' : tb ≤ B.length := by have := HBl.out; omega
  refine (R0_Bring.calls _ _ _ _ H7.out).mono ?_
  rintro e w8 ⟨rfl, hd⟩
  have n0_ := Aside0.mk (below_step HB.out hd.below); clear HB; have HB := n0_; clear n0_
  have n0_ := Aside0.mk (below_step WU.out hd.below); clear WU; have WU := n0_; clear n0_
  have n0_ := Aside0.mk (below_step WS.out hd.below); clear WS; have WS := n0_; clear n0_
  have n0_ := Aside0.mk (below_step WB.out hd.below); clear WB; have WB := n0_; clear n0_
  clear hd
  go_wp2_with fail
  refine (cb_takeU _ tu (takeC _ _ hUl' (Kd.C_below CU.out WU.out)) (lenTake _ _ hUl') (by have h := LU.out; omega) K1.out).mono ?_
  rintro e w9 ⟨v, rfl, ho, hb⟩
  have n0_ := Aside0.mk (below_step HB.out hb); clear HB; have HB := n0_; clear n0_
  have n0_ := Aside0.mk (below_step WU.out hb); clear WU; have WU := n0_; clear n0_
  have n0_ := Aside0.mk (below_step WS.out hb); clear WS; have WS := n0_; clear n0_
  have n0_ := Aside0.mk (below_step WB.out hb); clear WB; have WB := n0_; clear n0_
  clear ho hb
  go_wp2_with fail
  refine (R0_Bring.calls _ _ _ _ H8.out).mono ?_
  rintro e w10 ⟨rfl, hd⟩
  have n0_ := Aside0.mk (below_step HB.out hd.below); clear HB; have HB := n0_; clear n0_
  have n0_ := Aside0.mk (below_step WU.out hd.below); clear WU; have WU := n0_; clear n0_
  have n0_ := Aside0.mk (below_step WS.out hd.below); clear WS; have WS := n0_; clear n0_
  have n0_ := Aside0.mk (below_step WB.out hd.below); clear WB; have WB := n0_; clear n0_
  clear hd
  go_wp2_with fail
  refine (cb_takeS _ ts (takeC _ _ hSl' (Kd.C_below CS.out WS.out)) (lenTake _ _ hSl') (by have h := LS.out; omega) K2.out).mono ?_
  rintro e w11 ⟨v, rfl, ho, hb⟩
  have n0_ := Aside0.mk (below_step HB.out hb); clear HB; have HB := n0_; clear n0_
  have n0_ := Aside0.mk (below_step WU.out hb); clear WU; have WU := n0_; clear n0_
  have n0_ := Aside0.mk (below_step WS.out hb); clear WS; have WS := n0_; clear n0_
  have n0_ := Aside0.mk (below_step WB.out hb); clear WB; have WB := n0_; clear n0_
  clear ho hb
  go_wp2_with fail
  refine (R0_Bring.calls _ _ _ _ H9.out).mono ?_
  rintro e w12 ⟨rfl, hd⟩
  have n0_ := Aside0.mk (below_step HB.out hd.below); clear HB; have HB := n0_; clear n0_
  have n0_ := Aside0.mk (below_step WU.out hd.below); clear WU; have WU := n0_; clear n0_
  have n0_ := Aside0.mk (below_step WS.out hd.below); clear WS; have WS := n0_; clear n0_
  have n0_ := Aside0.mk (below_step WB.out hd.below); clear WB; have WB := n0_; clear n0_
  clear hd
  go_wp2_with fail
  refine (cb_takeBig _ tb (takeC _ _ hBl' (Kd.C_below CB.out WB.out)) (lenTake _ _ hBl') (by have h := LB.out; omega) K3.out).mono ?_
  rintro e w13 ⟨v, rfl, ho, hb⟩
  have n0_ := Aside0.mk (below_step HB.out hb); clear HB; have HB := n0_; clear n0_
  have n0_ := Aside0.mk (below_step WU.out hb); clear WU; have WU := n0_; clear n0_
  have n0_ := Aside0.mk (below_step WS.out hb); clear WS; have WS := n0_; clear n0_
  have n0_ := Aside0.mk (below_step WB.out hb); clear WB; have WB := n0_; clear n0_
  clear ho hb
  go_wp2_with fail
  refine (R0_Bring.calls _ _ _ _ H9.out).mono ?_
  rintro e w14 ⟨rfl, hd⟩
  have n0_ := Aside0.mk (below_step HB.out hd.below); clear HB; have HB := n0_; clear n0_
  have n0_ := Aside0.mk (below_step WU.out hd.below); clear WU; have WU := n0_; clear n0_
  have n0_ := Aside0.mk (below_step WS.out hd.below); clear WS; have WS := n0_; clear n0_
  have n0_ := Aside0.mk (below_step WB.out hd.below); clear WB; have WB := n0_; clear n0_
  clear hd
  go_wp2_with fail
  refine (cb_takeBigS _ tb (takeC _ _ hBl' (Kd.C_below CB.out WB.out)) (lenTake _ _ hBl') (by have h := LB.out; omega) K4.out).mono ?_
  rintro e w15 ⟨v, rfl, ho, hb⟩
  have n0_ := Aside0.mk (below_step HB.out hb); clear HB; have HB := n0_; clear n0_
  have n0_ := Aside0.mk (below_step WU.out hb); clear WU; have WU := n0_; clear n0_
  have n0_ := Aside0.mk (below_step WS.out hb); clear WS; have WS := n0_; clear n0_
  have n0_ := Aside0.mk (below_step WB.out hb); clear WB; have WB := n0_; clear n0_
  clear ho hb
  go_wp2
  go_ret
  exact ⟨rfl, HB.out⟩
theorem lebCut_walk (a0 a1 a2 : Int) (w : World) (w0 : (Lit.int .i64 a0).wf = true) (w1 : (Lit.int .i64 a1).wf = true) (w2 : (Lit.int .i64 a2).wf = true) :
    Calls Try.prog 7 #[.int .i64 a0, .int .i64 a1, .int .i64 a2] w fun e w' => e = .returned (.bool true) ∧ Below w.heap.size w w' := by
  have hb0 := bounds_i64 w0
  have hb1 := bounds_i64 w1
  have hb2 := bounds_i64 w2
  obtain ⟨s, hs⟩ : ∃ s : Nat, 1 + a1 % 7 = (s : Int) := ⟨(1 + a1 % 7).toNat, by omega⟩
  have hp := pow_pos2 (8 * s - 1)
  have hp2 : (2 : Int) ^ (8 * s - 1) ≤ 72057594037927936 := pow_le2 (8 * s - 1) 56 (by omega)
  have hp3 : (2 : Int) ^ (8 * s - 1) ≤ 2 ^ (8 * s) := pow_le2 _ _ (by omega)
  have x0 : 0 ≤ a0 % 9007199254740992 ∧ a0 % 9007199254740992 < 9007199254740992 := by omega
  have y0 := Int.emod_nonneg a0 (show (2 : Int) ^ (8 * s - 1) ≠ 0 by omega)
  have y1 := Int.emod_lt_of_pos a0 hp
  have h1 := Bring_f a0 9007199254740992 hb0 (by omega) (by omega)
  have h4 := Bring_f a1 7 hb1 (by omega) (by omega)
  have h5 := Bring_f a0 _ hb0 hp (by omega)
  rw [show a1 % 7 = (s : Int) - 1 by omega] at h4
  generalize a0 % 9007199254740992 = x at *
  generalize a0 % 2 ^ (8 * s - 1) = y at *
  have hbig : leb_Big.f y (s : Int) = some (bigL y s, 0) := by
    unfold leb_Big.f bigF
    rw [if_neg (by omega), Int.toNat_natCast, if_neg (by omega)]
  have hu := (ub_form x.toNat)
  have hS := (sb_form a0)
  have hup := hu.pos
  have hSp := hS.pos
  have hul := ub_len8 x.toNat (by omega)
  have hSl := sb_len10 a0 hb0.1 hb0.2
  have hB : Big47 = 140737488355300 := rfl
  have h2 := U_f 20 x (by omega) (by omega) (by omega)
  have h3 := S_f 20 a0 (by omega) hb0.1 hb0.2
  generalize ub x.toNat = U at *
  generalize sb a0 = S at *
  have h7 := Bring_f a2 (U.length : Int) hb2 (by omega) (by omega)
  have h8 := Bring_f a2 (S.length : Int) hb2 (by omega) (by omega)
  have h9 := Bring_f a2 (s : Int) hb2 (by omega) (by omega)
  have u0 := Int.emod_nonneg a2 (show (U.length : Int) ≠ 0 by omega)
  have u1 := Int.emod_lt_of_pos a2 (show (0 : Int) < (U.length : Int) by omega)
  have s0 := Int.emod_nonneg a2 (show (S.length : Int) ≠ 0 by omega)
  have s1 := Int.emod_lt_of_pos a2 (show (0 : Int) < (S.length : Int) by omega)
  have b0 := Int.emod_nonneg a2 (show (s : Int) ≠ 0 by omega)
  have b1 := Int.emod_lt_of_pos a2 (show (0 : Int) < (s : Int) by omega)
  obtain ⟨tu, htu⟩ := Int.eq_ofNat_of_zero_le u0
  obtain ⟨ts, hts⟩ := Int.eq_ofNat_of_zero_le s0
  obtain ⟨tb, htb⟩ := Int.eq_ofNat_of_zero_le b0
  rw [htu] at h7 u1
  rw [hts] at h8 s1
  rw [htb] at h9 b1
  have hUb : ∀ c ∈ U.take tu, 0 ≤ c ∧ c ≤ 255 := fun c hc => hu.bytes c (List.mem_of_mem_take hc)
  have hSb : ∀ c ∈ S.take ts, 0 ≤ c ∧ c ≤ 255 := fun c hc => hS.bytes c (List.mem_of_mem_take hc)
  have hBb : ∀ c ∈ (bigL y s).take tb, 0 ≤ c ∧ c ≤ 255 := fun c hc => bigL_bytes y s c (List.mem_of_mem_take hc)
  have hBl : (((bigL y s).take tb).length : Int) < s := by rw [List.length_take, bigL_len]; omega
  refine cut_walk0 a0 a1 a2 s tu ts tb x y U S (bigL y s) w h1 h2 h3 h4 (by omega) (by omega) h5 hbig hup hul hSp hSl (bigL_len y s) h7 h8 h9 (by omega) (by omega) (by omega) ?_ ?_ ?_ ?_
  · rw [TakeU_f _ _ (by omega) hUb (by rw [List.length_take]; omega), takeU_cut _ (by rw [List.length_take]; omega) (hu.cut _ (by omega))]
  · exact TakeS_cut _ _ (by omega) hSb (by rw [List.length_take]; omega) (hS.cut _ (by omega))
  · rw [TakeBig_f _ _ hBb (by omega), takeBig_cut _ _ (by omega) (by omega) hBl]
  · rw [TakeBigS_f _ _ hBb (by omega), takeBigS_cut _ _ (by omega) (by omega) hBl]
end Go.Proofs.Ytmfipofoeigleaa.Ext

/- The law LebBack, walked by hand. -/
import Derived.Test.YtmfipofoeigleaaLebSpec2
import Derived.Test.YtmfipofoeigleaaLebWorks
import Derived.OpenShut
set_option linter.unusedVariables false
set_option linter.unusedSimpArgs false
namespace Go.Proofs.Ytmfipofoeigleaa.Ext
open Go.RowKit Go.Proofs.YtmfipofoeigleaaW.PrintWords Go.Proofs.YtmfipofoeigleaaW.PrintLast Go.Proofs.YtmfipofoeigleaaW.PrintMore Go.Proofs.Ytmfipofoeigleaa.PLeb
attribute [local go_sem] max2_int min2_int max_two min_two max_three min_three max_four min_four

theorem bytes_app {p r : List Int} (h1 : ∀ x ∈ p, 0 ≤ x ∧ x ≤ 255) (h2 : ∀ x ∈ r, 0 ≤ x ∧ x ≤ 255) : ∀ x ∈ p ++ r, 0 ≤ x ∧ x ≤ 255 := by
  intro x hx; rw [List.mem_append] at hx; exact hx.elim (h1 x) (h2 x)
section
variable {w : World} {A0 A1 : Option Addr} {c0 c1 : Nat}
theorem bk_takeBig {l : List Int} {n : Nat} {a1 r1 r3 : Int} {r2 : List Int} (hr0 : Kd.C (Kd.int .u8) w A0 l.length l) (hn : l.length = n) (hc : n ≤ c0) (h : leb_TakeBig.f l a1 = some (r1, r2, r3)) :
    Calls Try.prog 26 #[.slice A0 n c0, .int .i64 a1] w fun e w' => ∃ v1_ : Value, e = .returned (.tuple #[.int .i64 r1, v1_, .int .i64 r3]) ∧ Kd.R (Kd.int .u8) 5 w' w.heap.size (fun _ => True) v1_ r2 ∧ Below w.heap.size w w' := by
  subst hn; exact leb_TakeBig.calls A0 c0 l a1 r1 r2 r3 w hr0 hc h
theorem bk_takeBigS {l : List Int} {n : Nat} {a1 r1 r3 : Int} {r2 : List Int} (hr0 : Kd.C (Kd.int .u8) w A0 l.length l) (hn : l.length = n) (hc : n ≤ c0) (h : leb_TakeBigS.f l a1 = some (r1, r2, r3)) :
    Calls Try.prog 28 #[.slice A0 n c0, .int .i64 a1] w fun e w' => ∃ v1_ : Value, e = .returned (.tuple #[.int .i64 r1, v1_, .int .i64 r3]) ∧ Kd.R (Kd.int .u8) 5 w' w.heap.size (fun _ => True) v1_ r2 ∧ Below w.heap.size w w' := by
  subst hn; exact leb_TakeBigS.calls A0 c0 l a1 r1 r2 r3 w hr0 hc h
theorem bk_eq {l : List Int} (hr0 : Kd.C (Kd.int .u8) w A0 l.length l) (hc0 : l.length ≤ c0) (hr1 : Kd.C (Kd.int .u8) w A1 l.length l) (hc1 : l.length ≤ c1) (hm : l.length ≤ Big47) :
    Calls Try.prog 20 #[.slice A0 l.length c0, .slice A1 l.length c1] w fun e w' => e = .returned (.bool true) ∧ Below w.heap.size w w' := by
  refine (R0_EqBytes.calls (l.length + 1) A0 c0 l A1 c1 l true w hr0 hc0 hr1 hc1 ?_).mono fun _ _ h => ⟨h.1, h.2.below⟩
  rw [Eq_f l l _ hm (by omega), decide_eq_true rfl]
end
/-- what a round of the loop has: nothing fits in so many bytes, or what was written is read -/
theorem back_facts (n : Int) (l : List Int) (hb : ∀ x ∈ l, 0 ≤ x ∧ x ≤ 255) (hm : l.length ≤ 140737488351232) (hn : -9223372036854775808 ≤ n ∧ n ≤ 9223372036854775807) (s : Nat) (h1 : 1 ≤ s) (h8 : s ≤ 8) :
    leb_Big.f n (s : Int) = some ([], 9) ∨ (∃ c d t, leb_Big.f n (s : Int) = some (bigL n s, 0) ∧ leb_TakeBigS.f (bigL n s ++ l) (s : Int) = some (c, l, 0) ∧ leb_TakeBig.f (bigL n s ++ l) (if (7 : Int) < (s : Int) then 7 else (s : Int)) = some (d, t, 0) ∧
      (c = n ∨ (c < 0 ∧ 0 ≤ n)) ∧ (s < 8 → 0 ≤ n → d = n)) := by
  unfold leb_Big.f
  by_cases hr : (s : Int) < 8 ∧ (n < -(2 ^ (8 * s - 1)) ∨ 2 ^ (8 * s) ≤ n)
  · left; unfold bigF; rw [if_neg (by omega), Int.toNat_natCast, if_pos hr]
  · right
    have e : bigF n (s : Int) = (bigL n s, 0) := by unfold bigF; rw [if_neg (by omega), Int.toNat_natCast, if_neg hr]
    have hin : -(2 ^ (8 * s - 1)) ≤ n ∧ n < 2 ^ (8 * s) := by
      by_cases h : s = 8
      · subst h; simp only [Nat.reduceMul, Nat.reduceSub, Int.reducePow]; omega
      · omega
    have hbl := bigL_len n s
    have hbb := bytes_app (bigL_bytes n s) hb
    have hlen : (bigL n s ++ l).length = s + l.length := by rw [List.length_append, hbl]
    have htk : (bigL n s ++ l).take s = bigL n s := by rw [List.take_append_of_le_length (by omega), List.take_of_length_le (by omega)]
    have hdr : (bigL n s ++ l).drop s = l := by rw [List.drop_append_of_le_length (by omega), List.drop_of_length_le (by omega), List.nil_append]
    have e1 : takeBigS (bigL n s ++ l) (s : Int) = (sgn s (n % 2 ^ (8 * s)), l, 0) := by
      unfold takeBigS; rw [if_neg (by omega), if_neg (by omega), Int.toNat_natCast, htk, hdr, hv_bigL s n h8]
    have e2 : ∃ d t, takeBig (bigL n s ++ l) (if (7 : Int) < (s : Int) then 7 else (s : Int)) = (d, t, 0) ∧ (s < 8 → d = n % 2 ^ (8 * s)) := by
      by_cases h : s < 8
      · refine ⟨n % 2 ^ (8 * s), l, ?_, fun _ => rfl⟩
        · rw [if_neg (by omega)]; unfold takeBig; rw [if_neg (by omega), if_neg (by omega), Int.toNat_natCast, htk, hdr, hv_bigL s n h8]
      · refine ⟨hv 0 ((bigL n s ++ l).take 7), (bigL n s ++ l).drop 7, ?_, fun h' => absurd h' h⟩
        rw [if_pos (by omega)]; unfold takeBig; rw [if_neg (by omega), if_neg (by omega)]; rfl
    obtain ⟨d, t, e2, e3⟩ := e2
    refine ⟨_, d, t, by rw [e], by rw [TakeBigS_f _ _ hbb (by omega), e1], by rw [TakeBig_f _ _ hbb (by omega), e2], sgn_big s n h1 h8 hin, fun h h0 => ?_⟩
    rw [e3 h]; exact Int.emod_eq_of_lt h0 hin.2
set_option maxHeartbeats 16000000 in
set_option maxRecDepth 100000 in
theorem lebBack_walk0 (n : Int) (l : List Int) (A : Option Addr) (cp : Nat) (w : World) (hn : -9223372036854775808 ≤ n ∧ n ≤ 9223372036854775807) (hby : ∀ x ∈ l, 0 ≤ x ∧ x ≤ 255) (hr : Kd.C (Kd.int .u8) w A l.length l) (hc : l.length ≤ cp) (hm : l.length ≤ 140737488351232)
    (x : Int) (S U Z5 Z8 : List Int) (z5 : S ++ l = Z5) (z8 : U ++ l = Z8) (k1 : leb_S.f 20 n = some S) (k2 : leb_TakeS.f 20 Z5 = some (n, l, 0)) (k3 : R0_Bring.f n 9007199254740992 = some x) (k4 : leb_U.f 20 x = some (U, 0)) (k5 : leb_TakeU.f 20 Z8 = some (x, l, 0)) (hSl : S.length ≤ 10) (hUl : U.length ≤ 10) :
    Calls Try.prog 5 #[.int .i64 n, .slice A l.length cp] w fun e w' => e = .returned (.bool true) ∧ Below w.heap.size w w' := by
  have HB := Aside0.mk (Below.refl w.heap.size w)
  have HN := Aside0.mk hn
  have HY := Aside0.mk hby
  have HR := Aside0.mk hr
  have HCP := Aside0.mk hc
  have HM := Aside0.mk hm
  have K1 := Aside0.mk k1; have K2 := Aside0.mk k2; have K3 := Aside0.mk k3; have K4 := Aside0.mk k4; have K5 := Aside0.mk k5
  have HZ5 := Aside0.mk z5; have HZ8 := Aside0.mk z8
  have HSL := Aside0.mk hSl; have HUL := Aside0.mk hUl
  have hBig : Big47 = 140737488355300 := rfl
  have HBG := Aside0.mk hBig
  clear z5 z8 hn hby hr hc hm k1 k2 k3 k4 k5 hSl hUl hBig
  go_enter Try.func5, Try.ntmps5
  go_wp2_with fail
  refine (L1_works.calls true _ rfl).mono ?_
  rintro e w1 ⟨rfl, hb⟩
  have n0_ := Aside0.mk (below_step HB.out hb); clear HB hb; have HB := n0_; clear n0_
  go_wp2_with fail
  refine (leb_S.calls 20 _ _ _ K1.out).mono ?_
  rintro e w2 ⟨v, rfl, ho, hb⟩
  have HO := Aside0.mk ho; have HBc := Aside0.mk hb
  have HC2 := Aside0.mk (Kd.C_below HR.out (below_step HB.out hb))
  clear ho hb
  go_wp2_with ((try (refine gate_guard (by rfl) ?_; dsimp only)); at_builtin; refine Kd.R_append_rows (Kd.int .u8) (w0 := w1) w1.heap.size rfl _ _ 22 5 (.int .u8 0) 1 rfl Try.underlying22 info5 rfl (by decide) (by omega) v (S) (l) A l.length cp (fun _ => True) (fun _ => False) rfl rfl HO.out HC2.out (fun _ _ h => h) (fun _ h => h.elim) (fun _ _ => trivial) HBc.out HBc.out.size (by have := HM.out; have := HSL.out; omega) ?_; intro v1 w3 ho hb hg hat; rw [HZ5.out] at ho; have HO1 := Aside0.mk ho; have n0_ := Aside0.mk hb; clear HBc HC2 HO; have HBc := n0_; clear n0_ ho hb hg hat; obtain ⟨A5, c5, rfl, hl_, hC_⟩ := Kd.R_reads HO1.out; have HL5 := Aside0.mk hl_; have HC5 := Aside0.mk hC_; clear hl_ hC_ HO1)
  have n0_ := Aside0.mk (below_step HB.out HBc.out); clear HB HBc; have HB := n0_; clear n0_
  refine (leb_TakeS.calls 20 A5 c5 Z5 _ _ _ _ HC5.out HL5.out K2.out).mono ?_
  rintro e w4 ⟨v4, rfl, ho, hb⟩
  have n0_ := Aside0.mk (below_step HB.out hb); clear HB hb HC5 HL5; have HB := n0_; clear n0_
  obtain ⟨A6, c6, rfl, hl_, hC_⟩ := Kd.R_reads ho
  have HL6 := Aside0.mk hl_; have HC6 := Aside0.mk hC_; clear hl_ hC_ ho
  go_wp2_with fail
  refine (bk_eq HC6.out HL6.out (Kd.C_below HR.out HB.out) HCP.out (Nat.le_trans HM.out (by decide))).mono ?_
  rintro e w5 ⟨rfl, hb⟩
  have n0_ := Aside0.mk (below_step HB.out hb); clear HB hb HC6 HL6; have HB := n0_; clear n0_
  go_wp2_with fail
  refine (R0_Bring.calls _ _ _ _ K3.out).mono ?_
  rintro e w6 ⟨rfl, hd⟩
  have n0_ := Aside0.mk (below_step HB.out hd.below); clear HB hd; have HB := n0_; clear n0_
  go_wp2_with fail
  refine (leb_U.calls 20 _ _ _ _ K4.out).mono ?_
  rintro e w7 ⟨v7, rfl, ho, hb⟩
  have HO := Aside0.mk ho; have HBc := Aside0.mk hb
  have HC2 := Aside0.mk (Kd.C_below HR.out (below_step HB.out hb))
  clear ho hb
  go_wp2_with ((try (refine gate_guard (by rfl) ?_; dsimp only)); at_builtin; refine Kd.R_append_rows (Kd.int .u8) (w0 := w6) w6.heap.size rfl _ _ 22 5 (.int .u8 0) 1 rfl Try.underlying22 info5 rfl (by decide) (by omega) v7 (U) (l) A l.length cp (fun _ => True) (fun _ => False) rfl rfl HO.out HC2.out (fun _ _ h => h) (fun _ h => h.elim) (fun _ _ => trivial) HBc.out HBc.out.size (by have := HM.out; have := HUL.out; omega) ?_; intro v1 w8 ho hb hg hat; rw [HZ8.out] at ho; have HO1 := Aside0.mk ho; have n0_ := Aside0.mk hb; clear HBc HC2 HO; have HBc := n0_; clear n0_ ho hb hg hat; obtain ⟨A8, c8, rfl, hl_, hC_⟩ := Kd.R_reads HO1.out; have HL8 := Aside0.mk hl_; have HC8 := Aside0.mk hC_; clear hl_ hC_ HO1)
  have n0_ := Aside0.mk (below_step HB.out HBc.out); clear HB HBc; have HB := n0_; clear n0_
  refine (leb_TakeU.calls 20 A8 c8 Z8 _ _ _ _ HC8.out HL8.out K5.out).mono ?_
  rintro e w9 ⟨v9, rfl, ho, hb⟩
  have n0_ := Aside0.mk (below_step HB.out hb); clear HB hb HC8 HL8; have HB := n0_; clear n0_
  obtain ⟨A9, c9, rfl, hl_, hC_⟩ := Kd.R_reads ho
  have HL9 := Aside0.mk hl_; have HC9 := Aside0.mk hC_; clear hl_ hC_ ho
  go_wp2_with fail
  refine (bk_eq HC9.out HL9.out (Kd.C_below HR.out HB.out) HCP.out (Nat.le_trans HM.out (by decide))).mono ?_
  rintro e w10 ⟨rfl, hb⟩
  have n0_ := Aside0.mk (below_step HB.out hb); clear HB hb HC9 HL9; have HB := n0_; clear n0_
  go_wp2
  go_loopw [14] (fun a wr => ∃ s : Nat, a = .int .i64 (s : Int) ∧ 1 ≤ s ∧ s ≤ 9 ∧ Aside0 (Below w.heap.size w wr)) (fun a _ => 9 - (intOf a).toNat)
  case atStart => exact ⟨1, rfl, by omega, by omega, HB⟩
  case round =>
    obtain ⟨s, rfl, hs1, hs9, HBr⟩ := hrel
    clear HB
    have HB := HBr
    clear HBr
    by_cases hs : s = 9
    · subst hs
      go_wp2
      go_ret
      exact ⟨rfl, HB.out⟩
    · have hs8 : s ≤ 8 := by omega
      have d8 : decide ((s : Int) ≤ 8) = true := decide_eq_true (by omega)
      have hf := back_facts n l HY.out HM.out HN.out s hs1 hs8
      rcases hf with hf | ⟨c, d, t, f1, f2, f3, f4, f5⟩
      · have F1 := Aside0.mk hf
        clear hf
        go_wp2_with fail
        refine (leb_Big.calls _ _ _ _ _ F1.out).mono ?_
        rintro e w11 ⟨v11, rfl, ho, hb⟩
        have n0_ := Aside0.mk (below_step HB.out hb); clear HB hb ho; have HB := n0_; clear n0_
        go_wp2
        go_roundw
        case rel => exact ⟨s + 1, by go_num, by omega, by omega, HB⟩
        case measure => simp [intOf]; omega
      · have hbl := bigL_len n s
        generalize bigL n s = B at *
        obtain ⟨Z, hz⟩ : ∃ Z, B ++ l = Z := ⟨_, rfl⟩
        rw [hz] at f2 f3
        have hzl : Z.length = s + l.length := by rw [← hz, List.length_append, hbl]
        have HZ20 := Aside0.mk hz
        have HZ21 := Aside0.mk hz
        have F1 := Aside0.mk f1; have F2 := Aside0.mk f2; have F4 := Aside0.mk f4; have F5 := Aside0.mk f5
        have HBL := Aside0.mk hbl
        have hbe : ((B.length : Int) == (s : Int)) = true := by rw [hbl]; exact beq_self_eq_true _
        have hbn : ((B.length : Int) != (s : Int)) = false := by rw [hbl]; simp
        clear hz hzl f1 f2 f4 f5 hbl
        by_cases h7 : s = 8
        · subst h7
          have hbn' : ((B.length : Int) != 8) = false := hbn
          clear hbn hbe
          have F3 := Aside0.mk f3
          clear f3
          go_wp2_with fail
          refine (leb_Big.calls _ _ _ _ _ F1.out).mono ?_
          rintro e w11 ⟨v11, rfl, ho, hb⟩
          have n0_ := Aside0.mk (below_step HB.out hb); clear HB hb; have HB := n0_; clear n0_
          obtain ⟨A11, c11, rfl, hl_, hC_⟩ := Kd.R_reads ho
          have HL11 := Aside0.mk hl_; have HC11 := Aside0.mk hC_; clear hl_ hC_ ho
          go_wp2_with fail
          refine (R0_CopyBytes.calls A11 c11 B B _ HC11.out HL11.out (Copy_f _ (by have h1 := HBL.out; unfold Big47; omega))).mono ?_
          rintro e w12 ⟨v12, rfl, ho, hb⟩
          have HO := Aside0.mk ho; have HBc := Aside0.mk hb
          have HC2 := Aside0.mk (Kd.C_below HR.out (below_step HB.out hb))
          clear ho hb
          go_wp2_with ((try (refine gate_guard (by rfl) ?_; dsimp only)); at_builtin; refine Kd.R_append_rows (Kd.int .u8) (w0 := w11) w11.heap.size rfl _ _ 22 5 (.int .u8 0) 1 rfl Try.underlying22 info5 rfl (by decide) (by omega) v12 (B) (l) A l.length cp (fun _ => True) (fun _ => False) rfl rfl HO.out HC2.out (fun _ _ h => h) (fun _ h => h.elim) (fun _ _ => trivial) HBc.out HBc.out.size (by have := HM.out; have := HBL.out; omega) ?_; intro v1 w13 ho hb hg hat; rw [HZ20.out] at ho; have HO1 := Aside0.mk ho; have n0_ := Aside0.mk hb; clear HBc HC2 HO; have HBc := n0_; clear n0_ ho hb hg hat; obtain ⟨A20, c20, rfl, hl_, hC_⟩ := Kd.R_reads HO1.out; have HL20 := Aside0.mk hl_; have HC20 := Aside0.mk hC_; clear hl_ hC_ HO1)
          have n0_ := Aside0.mk (below_step HB.out HBc.out); clear HB; have HB := n0_; clear n0_
          have n0_ := Aside0.mk (Kd.C_below HC11.out HBc.out); clear HC11 HBc; have HC11 := n0_; clear n0_
          refine (bk_takeBigS HC20.out rfl HL20.out F2.out).mono ?_
          rintro e w14 ⟨v14, rfl, ho, hb⟩
          have n0_ := Aside0.mk (below_step HB.out hb); clear HB; have HB := n0_; clear n0_
          have n0_ := Aside0.mk (Kd.C_below HC11.out hb); clear HC11 hb; have HC11 := n0_; clear n0_
          obtain ⟨A14, c14, rfl, hl_, hC_⟩ := Kd.R_reads ho
          have HL14 := Aside0.mk hl_; have HC14 := Aside0.mk hC_; clear hl_ hC_ ho HC20 HL20
          go_wp2_with fail
          refine (R0_CopyBytes.calls A11 c11 B B _ HC11.out HL11.out (Copy_f _ (by have h1 := HBL.out; unfold Big47; omega))).mono ?_
          rintro e w15 ⟨v15, rfl, ho, hb⟩
          have HO := Aside0.mk ho; have HBc := Aside0.mk hb
          have HC2 := Aside0.mk (Kd.C_below HR.out (below_step HB.out hb))
          clear ho hb
          go_wp2_with ((try (refine gate_guard (by rfl) ?_; dsimp only)); at_builtin; refine Kd.R_append_rows (Kd.int .u8) (w0 := w14) w14.heap.size rfl _ _ 22 5 (.int .u8 0) 1 rfl Try.underlying22 info5 rfl (by decide) (by omega) v15 (B) (l) A l.length cp (fun _ => True) (fun _ => False) rfl rfl HO.out HC2.out (fun _ _ h => h) (fun _ h => h.elim) (fun _ _ => trivial) HBc.out HBc.out.size (by have := HM.out; have := HBL.out; omega) ?_; intro v1 w16 ho hb hg hat; rw [HZ21.out] at ho; have HO1 := Aside0.mk ho; have n0_ := Aside0.mk hb; clear HBc HC2 HO; have HBc := n0_; clear n0_ ho hb hg hat; obtain ⟨A21, c21, rfl, hl_, hC_⟩ := Kd.R_reads HO1.out; have HL21 := Aside0.mk hl_; have HC21 := Aside0.mk hC_; clear hl_ hC_ HO1)
          have n0_ := Aside0.mk (below_step HB.out HBc.out); clear HB; have HB := n0_; clear n0_
          have n0_ := Aside0.mk (Kd.C_below HC14.out HBc.out); clear HC14 HBc; have HC14 := n0_; clear n0_
          refine (bk_takeBig HC21.out rfl HL21.out F3.out).mono ?_
          rintro e w17 ⟨v17, rfl, ho, hb⟩
          have n0_ := Aside0.mk (below_step HB.out hb); clear HB; have HB := n0_; clear n0_
          have n0_ := Aside0.mk (Kd.C_below HC14.out hb); clear HC14 hb ho; have HC14 := n0_; clear n0_
          go_wp2_with fail
          refine (bk_eq HC14.out HL14.out (Kd.C_below HR.out HB.out) HCP.out (Nat.le_trans HM.out (by decide))).mono ?_
          rintro e w18 ⟨rfl, hb⟩
          have n0_ := Aside0.mk (below_step HB.out hb); clear HB hb HC14 HL14; have HB := n0_; clear n0_
          rcases F4.out with hc | ⟨hc, hn0⟩
          · subst hc
            go_wp2
            go_roundw
            case rel => exact ⟨8 + 1, by go_num, by omega, by omega, HB⟩
            case measure => simp [intOf]
          · have c1 : (c != n) = true := by rw [bne_iff_ne]; omega
            have c2 : decide (0 ≤ c) = false := decide_eq_false (by omega)
            have c3 : decide (n < 0) = false := decide_eq_false (by omega)
            clear hc hn0
            go_wp2
            go_roundw
            case rel => exact ⟨8 + 1, by go_num, by omega, by omega, HB⟩
            case measure => simp [intOf]
        · have hlt7 : ¬ (7 : Int) < (s : Int) := by omega
          have d7 : decide ((s : Int) < 8) = true := decide_eq_true (by omega)
          rw [if_neg hlt7] at f3
          have F3 := Aside0.mk f3
          clear f3
          go_wp2_with fail
          refine (leb_Big.calls _ _ _ _ _ F1.out).mono ?_
          rintro e w11 ⟨v11, rfl, ho, hb⟩
          have n0_ := Aside0.mk (below_step HB.out hb); clear HB hb; have HB := n0_; clear n0_
          obtain ⟨A11, c11, rfl, hl_, hC_⟩ := Kd.R_reads ho
          have HL11 := Aside0.mk hl_; have HC11 := Aside0.mk hC_; clear hl_ hC_ ho
          go_wp2_with fail
          refine (R0_CopyBytes.calls A11 c11 B B _ HC11.out HL11.out (Copy_f _ (by have h1 := HBL.out; unfold Big47; omega))).mono ?_
          rintro e w12 ⟨v12, rfl, ho, hb⟩
          have HO := Aside0.mk ho; have HBc := Aside0.mk hb
          have HC2 := Aside0.mk (Kd.C_below HR.out (below_step HB.out hb))
          clear ho hb
          go_wp2_with ((try (refine gate_guard (by rfl) ?_; dsimp only)); at_builtin; refine Kd.R_append_rows (Kd.int .u8) (w0 := w11) w11.heap.size rfl _ _ 22 5 (.int .u8 0) 1 rfl Try.underlying22 info5 rfl (by decide) (by omega) v12 (B) (l) A l.length cp (fun _ => True) (fun _ => False) rfl rfl HO.out HC2.out (fun _ _ h => h) (fun _ h => h.elim) (fun _ _ => trivial) HBc.out HBc.out.size (by have := HM.out; have := HBL.out; omega) ?_; intro v1 w13 ho hb hg hat; rw [HZ20.out] at ho; have HO1 := Aside0.mk ho; have n0_ := Aside0.mk hb; clear HBc HC2 HO; have HBc := n0_; clear n0_ ho hb hg hat; obtain ⟨A20, c20, rfl, hl_, hC_⟩ := Kd.R_reads HO1.out; have HL20 := Aside0.mk hl_; have HC20 := Aside0.mk hC_; clear hl_ hC_ HO1)
          have n0_ := Aside0.mk (below_step HB.out HBc.out); clear HB; have HB := n0_; clear n0_
          have n0_ := Aside0.mk (Kd.C_below HC11.out HBc.out); clear HC11 HBc; have HC11 := n0_; clear n0_
          refine (bk_takeBigS HC20.out rfl HL20.out F2.out).mono ?_
          rintro e w14 ⟨v14, rfl, ho, hb⟩
          have n0_ := Aside0.mk (below_step HB.out hb); clear HB; have HB := n0_; clear n0_
          have n0_ := Aside0.mk (Kd.C_below HC11.out hb); clear HC11 hb; have HC11 := n0_; clear n0_
          obtain ⟨A14, c14, rfl, hl_, hC_⟩ := Kd.R_reads ho
          have HL14 := Aside0.mk hl_; have HC14 := Aside0.mk hC_; clear hl_ hC_ ho HC20 HL20
          go_wp2_with fail
          refine (R0_CopyBytes.calls A11 c11 B B _ HC11.out HL11.out (Copy_f _ (by have h1 := HBL.out; unfold Big47; omega))).mono ?_
          rintro e w15 ⟨v15, rfl, ho, hb⟩
          have HO := Aside0.mk ho; have HBc := Aside0.mk hb
          have HC2 := Aside0.mk (Kd.C_below HR.out (below_step HB.out hb))
          clear ho hb
          go_wp2_with ((try (refine gate_guard (by rfl) ?_; dsimp only)); at_builtin; refine Kd.R_append_rows (Kd.int .u8) (w0 := w14) w14.heap.size rfl _ _ 22 5 (.int .u8 0) 1 rfl Try.underlying22 info5 rfl (by decide) (by omega) v15 (B) (l) A l.length cp (fun _ => True) (fun _ => False) rfl rfl HO.out HC2.out (fun _ _ h => h) (fun _ h => h.elim) (fun _ _ => trivial) HBc.out HBc.out.size (by have := HM.out; have := HBL.out; omega) ?_; intro v1 w16 ho hb hg hat; rw [HZ21.out] at ho; have HO1 := Aside0.mk ho; have n0_ := Aside0.mk hb; clear HBc HC2 HO; have HBc := n0_; clear n0_ ho hb hg hat; obtain ⟨A21, c21, rfl, hl_, hC_⟩ := Kd.R_reads HO1.out; have HL21 := Aside0.mk hl_; have HC21 := Aside0.mk hC_; clear hl_ hC_ HO1)
          have n0_ := Aside0.mk (below_step HB.out HBc.out); clear HB; have HB := n0_; clear n0_
          have n0_ := Aside0.mk (Kd.C_below HC14.out HBc.out); clear HC14 HBc; have HC14 := n0_; clear n0_
          refine (bk_takeBig HC21.out rfl HL21.out F3.out).mono ?_
          rintro e w17 ⟨v17, rfl, ho, hb⟩
          have n0_ := Aside0.mk (below_step HB.out hb); clear HB; have HB := n0_; clear n0_
          have n0_ := Aside0.mk (Kd.C_below HC14.out hb); clear HC14 hb ho; have HC14 := n0_; clear n0_
          go_wp2_with fail
          refine (bk_eq HC14.out HL14.out (Kd.C_below HR.out HB.out) HCP.out (Nat.le_trans HM.out (by decide))).mono ?_
          rintro e w18 ⟨rfl, hb⟩
          have n0_ := Aside0.mk (below_step HB.out hb); clear HB hb HC14 HL14; have HB := n0_; clear n0_
          by_cases hn0 : 0 ≤ n
          · have hd := F5.out (by omega) hn0
            subst hd
            have c4 : decide (0 ≤ d) = true := decide_eq_true hn0
            have c3 : decide (d < 0) = false := decide_eq_false (by omega)
            rcases F4.out with hc | ⟨hc, _⟩
            · subst hc
              clear hn0
              go_wp2
              go_roundw
              case rel => exact ⟨s + 1, by go_num, by omega, by omega, HB⟩
              case measure => simp [intOf]; omega
            · have c1 : (c != d) = true := by rw [bne_iff_ne]; omega
              have c2 : decide (0 ≤ c) = false := decide_eq_false (by omega)
              clear hc hn0
              go_wp2
              go_roundw
              case rel => exact ⟨s + 1, by go_num, by omega, by omega, HB⟩
              case measure => simp [intOf]; omega
          · have c4 : decide (0 ≤ n) = false := decide_eq_false hn0
            have hc : c = n := F4.out.resolve_right (fun h => hn0 h.2)
            subst hc
            clear hn0
            go_wp2
            go_roundw
            case rel => exact ⟨s + 1, by go_num, by omega, by omega, HB⟩
            case measure => simp [intOf]; omega
theorem lebBack_walk (a0 : Int) (a1 : Option Addr) (len1 cap1 : Nat) (z1 : List Int) (w : World) (w0 : (Lit.int .i64 a0).wf = true)
    (w1 : (a1 = none ∧ len1 = 0 ∧ cap1 = 0 ∧ z1 = []) ∨ ∃ x, a1 = some x ∧ len1 ≤ cap1 ∧ cap1 ≤ maxLen ∧ z1.length = cap1 ∧ (∀ i, i < z1.length → w.cell? (x.add i) = some (.int .u8 (z1.getD i 0))) ∧ ∀ n ∈ z1, (Lit.int .u8 n).wf = true) (y1 : len1 * 1 ≤ 140737488351232) :
    Calls Try.prog 5 #[.int .i64 a0, .slice a1 len1 cap1] w fun e w' => e = .returned (.bool true) ∧ Below w.heap.size w w' := by
  obtain ⟨l, rfl, hr, hm0, hw, hc⟩ := ReadsInt.ofRowC w1
  have hb := bounds_i64 w0
  have hby : ∀ x ∈ l, 0 ≤ x ∧ x ≤ 255 := fun x hx => bounds_u8 (hw x hx)
  have hB : Big47 = 140737488355300 := rfl
  have hm : l.length ≤ 140737488351232 := by omega
  have hSl := sb_len10 a0 hb.1 hb.2
  have x0 : 0 ≤ a0 % 9007199254740992 ∧ a0 % 9007199254740992 < 9007199254740992 := by omega
  have k3 := Bring_f a0 9007199254740992 hb (by omega) (by omega)
  generalize a0 % 9007199254740992 = x at *
  have hUl := ub_len8 x.toNat (by omega)
  have hxv : ((x.toNat : Nat) : Int) = x := by omega
  refine lebBack_walk0 a0 l a1 cap1 w hb hby (Kd.C_of_reads (d := (0 : Int)) (h1 := fun _ => rfl) hr) hc hm x (sb a0) (ub x.toNat) _ _ rfl rfl (S_f 20 a0 (by omega) hb.1 hb.2) ?_ k3 (U_f 20 x (by omega) (by omega) (by omega)) ?_ hSl (by omega)
  · have := TakeS_ok 20 (sb_form a0) l (by omega) (bytes_app (sb_form a0).bytes hby) (by rw [List.length_append]; omega) hSl (sb_good a0 hb.1 hb.2)
    rwa [sb_val] at this
  · rw [TakeU_f _ _ (by omega) (bytes_app (ub_form x.toNat).bytes hby) (by rw [List.length_append]; omega), takeU_ok (ub_form x.toNat) l hUl (ub_last x.toNat) (by rw [ub_val]; omega), ub_val, hxv]
end Go.Proofs.Ytmfipofoeigleaa.Ext

/- The law PoolWrites, walked. -/
import Derived.Test.YtkhigagkgpfpfaaDoorPoolRBytes
import Derived.Test.YtkhigagkgpfpfaaDoorPoolLaws3
set_option linter.unusedVariables false
set_option linter.unusedSimpArgs false
namespace Go.Proofs.YtkhigagkgpfpfaaDoor.Ext
open Go.RowKit Go.Lib Go.Proofs.YtkhigagkgpfpfaaDoorW.PrintWords Go.Proofs.YtkhigagkgpfpfaaDoorW.PrintLast Go.Proofs.YtkhigagkgpfpfaaDoorW.PrintMore Go.Proofs.YtkhigagkgpfpfaaDoor.PLeb
attribute [local go_sem] max2_int min2_int max_two min_two max_three min_three max_four min_four

theorem rbytes_c {l : List S35} {bs : List Int} {A : Option Addr} {n cap : Nat} (w : World) (hT : Tabs w) (hs : Tiny l) (hi : Ints l) (hr : Kd.C k35 w A l.length l) (hn : l.length = n) (hc : n ≤ cap) (hk : checkL l = 0) (hb : bytesL l = bs) :
    Calls Tryd.prog 32 #[.slice A n cap] w fun e w' => ∃ (A1 : Option Addr) (c1 : Nat), e = .returned (.tuple #[.slice A1 bs.length c1, .int .i64 0]) ∧ bs.length ≤ c1 ∧ Kd.C (Kd.int .u8) w' A1 bs.length bs ∧ Below w.heap.size w w' := by
  subst hb
  refine (rbytes_ok w hT hs hi hr hn hc hk).mono ?_
  rintro e w' ⟨v, rfl, ho, hb⟩
  obtain ⟨A1, c1, rfl, hl, hC⟩ := Kd.R_reads ho
  exact ⟨A1, c1, rfl, hl, hC, hb⟩
theorem k35_M {w : World} (base : Nat) (okp : Nat → Prop) (x : S35) (cs : List Value) (h : k35.K w x cs) : k35.M w base okp x cs := by
  obtain rfl := k35_open h
  exact k35_mkM _ _ _ x
set_option maxHeartbeats 8000000 in
set_option maxRecDepth 100000 in
theorem poolWrites_walk (a0 : Option Addr) (len0 cap0 : Nat) (l0 : List S35) (w : World) (hr0 : Kd.C k35 w a0 l0.length l0) (hn0 : l0.length = len0) (hc0 : len0 ≤ cap0) (hm0 : len0 ≤ 1048576) (hs0 : ∀ c ∈ l0, c.f1.size ≤ 1048576) (hi0 : Ints l0) (hT : Tabs w) (hRd : Rds w) :
    Calls Tryd.prog 11 #[.slice a0 len0 cap0] w fun e w' => e = .returned (.bool true) ∧ Below w.heap.size w w' := by
  subst hn0
  have HT := Aside0.mk hT
  have HRD := Aside0.mk hRd
  have HR := Aside0.mk hr0
  have HC := Aside0.mk hc0
  have HM := Aside0.mk hm0
  have HS := Aside0.mk (tiny_of hs0)
  have HI := Aside0.mk hi0
  have HLL := Aside0.mk (show (([] : List S35).length + l0.length) * 56 ≤ 140737488355328 by simp; omega)
  have HB0 := Aside0.mk (Below.refl w.heap.size w)
  clear hT hRd hr0 hc0 hm0 hs0 hi0
  by_cases hk : checkL l0 = 0
  · have HK := Aside0.mk hk
    have hbb := bytesL_len hk HS.out HI.out
    obtain ⟨bs, hbs⟩ : ∃ bs, bytesL l0 = bs := ⟨_, rfl⟩
    rw [hbs] at hbb
    have HBS := Aside0.mk hbs
    have HBL := Aside0.mk (show bs.length ≤ 140737488355300 by have := hbb.1; omega)
    clear hk hbs hbb
    go_enter Tryd.func11, Tryd.ntmps11
    go_wp2_with (at_builtin; go_loud (refine Kd.R_append_rows k35 (w0 := w) w.heap.size rfl _ _ 24 35 (.agg #[.int .i64 0, .string ⟨#[]⟩, .int .i64 0, .int .i64 0, .int .i64 0, .int .i64 0]) 56 rfl Tryd.underlying24 info35 rfl sz35 by56 (.slice none 0 0) [] l0 a0 l0.length cap0 (fun _ => True) (fun _ => False) rfl rfl (Kd.R_nil _ _ _ _ _) HR.out (fun x cs h => k35_M _ _ x cs h) (fun _ h => h.elim) (fun _ _ => trivial) HB0.out (below_size HB0.out) HLL.out ?_); intro v1 w1 ho hb hg hat; rw [List.nil_append] at ho; obtain ⟨A1, c1, rfl, hl1, hC1⟩ := Kd.R_reads ho; have HL1 := Aside0.mk hl1; have HC1 := Aside0.mk hC1; have HB1 := Aside0.mk hb; clear ho hb hg hat hl1 hC1)
    refine (bytes_c w1 (HT.out.below HB1.out) HS.out HI.out HC1.out rfl HL1.out HK.out HBS.out).mono ?_
    rintro y w2 ⟨A2, c2, rfl, hl2, hC2, -, hb⟩
    have HL2 := Aside0.mk hl2
    have HC2 := Aside0.mk hC2
    have HN2 := Aside0.mk (Kd.C_below HC1.out hb)
    have HB2 := Aside0.mk (below_step HB1.out hb)
    clear hl2 hC2 hb HC1 HB1
    go_wp2_with fail
    refine (rbytes_c w2 (HT.out.below HB2.out) HS.out HI.out (Kd.C_below HR.out HB2.out) rfl HC.out HK.out HBS.out).mono ?_
    rintro y w3 ⟨A3, c3, rfl, hl3, hC3, hb⟩
    have HL3 := Aside0.mk hl3
    have HC3 := Aside0.mk hC3
    have HX3 := Aside0.mk (Kd.C_below HC2.out hb)
    have HN3 := Aside0.mk (Kd.C_below HN2.out hb)
    have HB3 := Aside0.mk (below_step HB2.out hb)
    clear hl3 hC3 hb HC2 HN2 HB2
    have hc4 := check_calls w3 (HT.out.below HB3.out) HS.out.small HN3.out rfl HL1.out (by have := HM.out; omega)
    rw [HK.out] at hc4
    have HQ4 := Aside0.mk hc4
    clear hc4
    go_wp2_with fail
    refine HQ4.out.mono ?_
    rintro y w4 ⟨rfl, hb⟩
    have HY4 := Aside0.mk (Kd.C_below HC3.out hb)
    have HX4 := Aside0.mk (Kd.C_below HX3.out hb)
    have HN4 := Aside0.mk (Kd.C_below HN3.out hb)
    have HB4 := Aside0.mk (below_step HB3.out hb)
    clear hb HC3 HX3 HN3 HB3 HQ4
    have hc5 := rcheck_calls w4 (HT.out.below HB4.out) HS.out.small (Kd.C_below HR.out HB4.out) rfl HC.out (by have := HM.out; omega)
    rw [HK.out] at hc5
    have HQ5 := Aside0.mk hc5
    clear hc5
    go_wp2_with fail
    refine HQ5.out.mono ?_
    rintro y w5 ⟨rfl, hb⟩
    have HY5 := Aside0.mk (Kd.C_below HY4.out hb)
    have HX5 := Aside0.mk (Kd.C_below HX4.out hb)
    have HN5 := Aside0.mk (Kd.C_below HN4.out hb)
    have HB5 := Aside0.mk (below_step HB4.out hb)
    clear hb HX4 HY4 HN4 HB4 HQ5
    go_wp2_with fail
    refine (eq_calls true HX5.out rfl HL2.out HY5.out rfl HL3.out HBL.out (decide_eq_true rfl)).mono ?_
    rintro y w6 ⟨rfl, hb⟩
    have HN6 := Aside0.mk (Kd.C_below HN5.out hb)
    have HB6 := Aside0.mk (below_step HB5.out hb)
    clear hb HX5 HY5 HN5 HB5
    go_wp2_with fail
    refine (same_calls HN6.out rfl HL1.out (Kd.C_below HR.out HB6.out) rfl HC.out (by have := HM.out; omega)).mono ?_
    rintro y w7 ⟨rfl, hb⟩
    have HB7 := Aside0.mk (below_step HB6.out hb)
    clear hb HN6 HB6
    go_wp2_with fail
    refine (works_calls w7 (HT.out.below HB7.out) (HRD.out.from HB7.out HRD.out.lt)).mono ?_
    rintro y w8 ⟨rfl, hb⟩
    have HB8 := Aside0.mk (below_step HB7.out hb)
    clear hb
    go_wp2
    go_ret
    exact ⟨rfl, HB8.out⟩
  · have HK := Aside0.mk hk
    obtain ⟨ck, hck⟩ : ∃ ck, checkL l0 = ck := ⟨_, rfl⟩
    have HCK := Aside0.mk hck
    have q1 : (ck != 0) = true := bne_iff_ne.2 (hck ▸ hk)
    clear hk hck
    go_enter Tryd.func11, Tryd.ntmps11
    go_wp2_with (at_builtin; go_loud (refine Kd.R_append_rows k35 (w0 := w) w.heap.size rfl _ _ 24 35 (.agg #[.int .i64 0, .string ⟨#[]⟩, .int .i64 0, .int .i64 0, .int .i64 0, .int .i64 0]) 56 rfl Tryd.underlying24 info35 rfl sz35 by56 (.slice none 0 0) [] l0 a0 l0.length cap0 (fun _ => True) (fun _ => False) rfl rfl (Kd.R_nil _ _ _ _ _) HR.out (fun x cs h => k35_M _ _ x cs h) (fun _ h => h.elim) (fun _ _ => trivial) HB0.out (below_size HB0.out) HLL.out ?_); intro v1 w1 ho hb hg hat; rw [List.nil_append] at ho; obtain ⟨A1, c1, rfl, hl1, hC1⟩ := Kd.R_reads ho; have HL1 := Aside0.mk hl1; have HC1 := Aside0.mk hC1; have HB1 := Aside0.mk hb; clear ho hb hg hat hl1 hC1)
    have HQ2 := Aside0.mk (bytes_bad w1 (HT.out.below HB1.out) HS.out.small HC1.out rfl HL1.out (by have := HM.out; omega) HK.out)
    rw [HCK.out] at HQ2
    refine HQ2.out.mono ?_
    rintro y w2 ⟨rfl, hb⟩
    have HN2 := Aside0.mk (Kd.C_below HC1.out hb)
    have HB2 := Aside0.mk (below_step HB1.out hb)
    clear hb HC1 HB1 HQ2
    have HQ3 := Aside0.mk (rbytes_bad w2 (HT.out.below HB2.out) HS.out.small (Kd.C_below HR.out HB2.out) rfl HC.out (by have := HM.out; omega) HK.out)
    rw [HCK.out] at HQ3
    go_wp2_with fail
    refine HQ3.out.mono ?_
    rintro y w3 ⟨rfl, hb⟩
    have HN3 := Aside0.mk (Kd.C_below HN2.out hb)
    have HB3 := Aside0.mk (below_step HB2.out hb)
    clear hb HN2 HB2 HQ3
    have hc4 := check_calls w3 (HT.out.below HB3.out) HS.out.small HN3.out rfl HL1.out (by have := HM.out; omega)
    rw [HCK.out] at hc4
    have HQ4 := Aside0.mk hc4
    clear hc4
    go_wp2_with fail
    refine HQ4.out.mono ?_
    rintro y w4 ⟨rfl, hb⟩
    have HN4 := Aside0.mk (Kd.C_below HN3.out hb)
    have HB4 := Aside0.mk (below_step HB3.out hb)
    clear hb HN3 HB3 HQ4
    have hc5 := rcheck_calls w4 (HT.out.below HB4.out) HS.out.small (Kd.C_below HR.out HB4.out) rfl HC.out (by have := HM.out; omega)
    rw [HCK.out] at hc5
    have HQ5 := Aside0.mk hc5
    clear hc5
    go_wp2_with fail
    refine HQ5.out.mono ?_
    rintro y w5 ⟨rfl, hb⟩
    have HN5 := Aside0.mk (Kd.C_below HN4.out hb)
    have HB5 := Aside0.mk (below_step HB4.out hb)
    clear hb HN4 HB4 HQ5
    go_wp2_with fail
    refine (eq_calls (l0 := []) (l1 := []) true (c_nil _) rfl (Nat.le_refl _) (c_nil _) rfl (Nat.le_refl _) (Nat.zero_le _) (decide_eq_true rfl)).mono ?_
    rintro y w6 ⟨rfl, hb⟩
    have HN6 := Aside0.mk (Kd.C_below HN5.out hb)
    have HB6 := Aside0.mk (below_step HB5.out hb)
    clear hb HN5 HB5
    go_wp2_with fail
    refine (same_calls HN6.out rfl HL1.out (Kd.C_below HR.out HB6.out) rfl HC.out (by have := HM.out; omega)).mono ?_
    rintro y w7 ⟨rfl, hb⟩
    have HB7 := Aside0.mk (below_step HB6.out hb)
    clear hb HN6 HB6
    go_wp2_with fail
    refine (works_calls w7 (HT.out.below HB7.out) (HRD.out.from HB7.out HRD.out.lt)).mono ?_
    rintro y w8 ⟨rfl, hb⟩
    have HB8 := Aside0.mk (below_step HB7.out hb)
    clear hb
    go_wp2
    go_ret
    exact ⟨rfl, HB8.out⟩
end Go.Proofs.YtkhigagkgpfpfaaDoor.Ext

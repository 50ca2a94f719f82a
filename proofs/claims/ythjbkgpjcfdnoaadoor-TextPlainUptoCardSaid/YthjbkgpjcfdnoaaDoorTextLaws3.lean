/- The laws TextJoins and TextPlain, walked. -/
import Derived.Test.YthjbkgpjcfdnoaaDoorTextLaws1
set_option linter.unusedVariables false
set_option linter.unusedSimpArgs false
namespace Go.Proofs.YthjbkgpjcfdnoaaDoor.Ext
open Go.RowKit Go.Lib Go.Proofs.YthjbkgpjcfdnoaaDoorW.PrintWords Go.Proofs.YthjbkgpjcfdnoaaDoorW.PrintLast Go.Proofs.YthjbkgpjcfdnoaaDoorW.PrintMore Go.Proofs.YthjbkgpjcfdnoaaDoor.PTxt
attribute [local go_sem] max2_int min2_int max_two min_two max_three min_three max_four min_four

set_option maxHeartbeats 8000000 in
set_option maxRecDepth 100000 in
theorem textJoins_walk (s t : ByteArray) (w : World) (hs : s.size ≤ 1048576) (ht : t.size ≤ 1048576) (hT : Tabs w) :
    Calls Tryd.prog 5 #[.string s, .string t] w fun e w' => e = .returned (.bool true) ∧ Below w.heap.size w w' := by
  have HT := Aside0.mk hT
  have HB := Aside0.mk (Below.refl w.heap.size w)
  have HS := Aside0.mk hs
  have HS' := Aside0.mk ht
  clear hT
  by_cases hv : validD s.data.toList = true
  · obtain ⟨cs, hcs, he, hl⟩ := chars_of hv
    have HX := Aside0.mk hcs
    have HE := Aside0.mk he
    have HL := Aside0.mk (show cs.length ≤ 1048576 by omega)
    by_cases hv2 : validD t.data.toList = true
    · obtain ⟨ds, hds, he2, hl2⟩ := chars_of hv2
      have HX2 := Aside0.mk hds
      have HE2 := Aside0.mk he2
      have HL2 := Aside0.mk (show ds.length ≤ 1048576 by omega)
      have HX3 := Aside0.mk (show ∀ c ∈ cs ++ ds, VR c from fun c hc => (List.mem_append.1 hc).elim (hcs c) (hds c))
      have HE3 := Aside0.mk (show (s ++ t).data.toList = us (cs ++ ds) by rw [us_append, ← he, ← he2]; simp [ByteArray.data_append])
      have hms := muts_len cs
      have hmd := muts_len ds
      have HML := Aside0.mk (show (muts cs).length ≤ 8388608 ∧ (muts ds).length ≤ 8388608 by omega)
      have hmu : muts (cs ++ ds) = muts cs ++ muts ds := muts_append _ _
      have hml : (muts (cs ++ ds)).length = (muts cs).length + (muts ds).length := by rw [hmu, List.length_append]
      obtain ⟨z, hz⟩ : ∃ z, muts cs ++ muts ds = z := ⟨_, rfl⟩
      have HZ := Aside0.mk hz
      have HQ := Aside0.mk (decide_eq_true (show muts (cs ++ ds) = z from hmu.trans hz))
      have HN := Aside0.mk hml
      have hsum : s.size + t.size ≤ 9223372036854775807 := by omega
      have b1 : ((muts cs).length : Int) ≤ 8388608 := by omega
      have b2 : ((muts ds).length : Int) ≤ 8388608 := by omega
      have hq : (((muts (cs ++ ds)).length : Int) == ((muts cs).length : Int) + ((muts ds).length : Int)) = true := by rw [hml]; simp
      clear hv hcs he hl hv2 hds he2 hl2 hms hmd hmu hml hs ht hz
      go_enter Tryd.func5, Tryd.ntmps5
      go_wp2_with fail
      refine (works_calls _ HT.out).mono ?_
      rintro e w1 ⟨rfl, hb⟩
      have n0_ := Aside0.mk (below_step HB.out hb); clear HB hb; have HB := n0_; clear n0_
      go_wp2_with fail
      refine (enc_good cs s _ HX.out HE.out (by have := HL.out; omega) (HT.out.below HB.out)).mono ?_
      rintro e w2 ⟨A, c, rfl, hl, hC, ho, hb⟩
      have n0_ := Aside0.mk (below_step HB.out hb); clear HB hb ho; have HB := n0_; clear n0_
      have HC := Aside0.mk hC
      have HLC := Aside0.mk hl
      clear hC hl
      go_wp2_with fail
      refine (enc_good ds t _ HX2.out HE2.out (by have := HL2.out; omega) (HT.out.below HB.out)).mono ?_
      rintro e w3 ⟨A2, c2, rfl, hl, hC, ho, hb⟩
      have n0_ := Aside0.mk (below_step HB.out hb); clear HB ho; have HB := n0_; clear n0_
      have n0_ := Aside0.mk (Kd.C_below HC.out hb); clear HC hb; have HC := n0_; clear n0_
      have HC2 := Aside0.mk hC
      have HLC2 := Aside0.mk hl
      clear hC hl
      go_wp2_with fail
      refine (enc_good (cs ++ ds) (s ++ t) _ HX3.out HE3.out (by have := HL.out; have := HL2.out; rw [List.length_append]; omega) (HT.out.below HB.out)).mono ?_
      rintro e w4 ⟨A3, c3, rfl, hl, hC, ho, hb⟩
      have n0_ := Aside0.mk (below_step HB.out hb); clear HB ho; have HB := n0_; clear n0_
      have n0_ := Aside0.mk (Kd.C_below HC.out hb); clear HC; have HC := n0_; clear n0_
      have n0_ := Aside0.mk (Kd.C_below HC2.out hb); clear HC2 hb; have HC2 := n0_; clear n0_
      have HC3 := Aside0.mk hC
      have HLC3 := Aside0.mk hl
      clear hC hl
      go_wp2_with fail
      refine (len_good (cs ++ ds) (s ++ t) _ HX3.out HE3.out (by have := HL.out; have := HL2.out; rw [List.length_append]; omega) (HT.out.below HB.out)).mono ?_
      rintro e w5 ⟨rfl, hb⟩
      have n0_ := Aside0.mk (below_step HB.out hb); clear HB; have HB := n0_; clear n0_
      have n0_ := Aside0.mk (Kd.C_below HC.out hb); clear HC; have HC := n0_; clear n0_
      have n0_ := Aside0.mk (Kd.C_below HC2.out hb); clear HC2; have HC2 := n0_; clear n0_
      have n0_ := Aside0.mk (Kd.C_below HC3.out hb); clear HC3 hb; have HC3 := n0_; clear n0_
      go_wp2_with fail
      refine (copy_calls HC.out rfl HLC.out (by have := HML.out; omega)).mono ?_
      rintro e w6 ⟨v, rfl, ho, hb⟩
      have HO := Aside0.mk ho
      have HBc := Aside0.mk hb
      have HC26 := Aside0.mk (Kd.C_below HC2.out hb)
      clear ho hb
      go_wp2_with ((try (refine gate_guard (by rfl) ?_; dsimp only)); at_builtin; refine Kd.R_append_rows (Kd.int .u8) (w0 := w5) w5.heap.size rfl _ _ 23 5 (.int .u8 0) 1 rfl Tryd.underlying23 infoB rfl (by decide) (by omega) v (muts cs) (muts ds) A2 (muts ds).length c2 (fun _ => True) (fun _ => False) rfl rfl HO.out HC26.out (fun _ _ h => h) (fun _ h => h.elim) (fun _ _ => trivial) HBc.out HBc.out.size (by have := HML.out; omega) ?_; intro v1 w7 ho hb hg hat; rw [HZ.out] at ho; have HO1 := Aside0.mk ho; have HB7 := Aside0.mk hb; clear HBc HC26 HO; clear ho hb hg hat; obtain ⟨A5, c5, rfl, hl5, hC5⟩ := Kd.R_reads HO1.out; have HL5 := Aside0.mk hl5; have HC5 := Aside0.mk hC5; clear hl5 hC5 HO1)
      refine (eq_calls true (Kd.C_below HC3.out HB7.out) rfl HLC3.out HC5.out rfl HL5.out (by have := HML.out; have := HN.out; omega) HQ.out).mono ?_
      rintro e w8 ⟨rfl, hb⟩
      have n0_ := Aside0.mk (below_step (below_step HB.out HB7.out) hb); clear HB hb; have HB := n0_; clear n0_
      go_wp2
      go_ret
      exact ⟨rfl, HB.out⟩
    · have HV := Aside0.mk (bnot hv2)
      clear hv hcs he hl hv2 hs ht
      go_enter Tryd.func5, Tryd.ntmps5
      go_wp2_with fail
      refine (works_calls _ HT.out).mono ?_
      rintro e w1 ⟨rfl, hb⟩
      have n0_ := Aside0.mk (below_step HB.out hb); clear HB hb; have HB := n0_; clear n0_
      go_wp2_with fail
      refine (enc_good cs s _ HX.out HE.out (by have := HL.out; omega) (HT.out.below HB.out)).mono ?_
      rintro e w2 ⟨A, c, rfl, hl, hC, ho, hb⟩
      have n0_ := Aside0.mk (below_step HB.out hb); clear HB hb ho hC hl; have HB := n0_; clear n0_
      go_wp2_with fail
      refine (encode_bad t _ (by have := HS'.out; omega) (HT.out.below HB.out) HV.out).mono ?_
      rintro e w3 ⟨rfl, hb⟩
      have n0_ := Aside0.mk (below_step HB.out hb); clear HB hb; have HB := n0_; clear n0_
      go_wp2
      go_ret
      exact ⟨rfl, HB.out⟩
  · have HV := Aside0.mk (bnot hv)
    clear hv
    by_cases hv2 : validD t.data.toList = true
    · obtain ⟨ds, hds, he2, hl2⟩ := chars_of hv2
      have HX2 := Aside0.mk hds
      have HE2 := Aside0.mk he2
      have HL2 := Aside0.mk (show ds.length ≤ 1048576 by omega)
      clear hv2 hds he2 hl2 hs ht
      go_enter Tryd.func5, Tryd.ntmps5
      go_wp2_with fail
      refine (works_calls _ HT.out).mono ?_
      rintro e w1 ⟨rfl, hb⟩
      have n0_ := Aside0.mk (below_step HB.out hb); clear HB hb; have HB := n0_; clear n0_
      go_wp2_with fail
      refine (encode_bad s _ (by have := HS.out; omega) (HT.out.below HB.out) HV.out).mono ?_
      rintro e w3 ⟨rfl, hb⟩
      have n0_ := Aside0.mk (below_step HB.out hb); clear HB hb; have HB := n0_; clear n0_
      go_wp2_with fail
      refine (enc_good ds t _ HX2.out HE2.out (by have := HL2.out; omega) (HT.out.below HB.out)).mono ?_
      rintro e w2 ⟨A, c, rfl, hl, hC, ho, hb⟩
      have n0_ := Aside0.mk (below_step HB.out hb); clear HB hb ho hC hl; have HB := n0_; clear n0_
      go_wp2
      go_ret
      exact ⟨rfl, HB.out⟩
    · have HV2 := Aside0.mk (bnot hv2)
      clear hv2 hs ht
      go_enter Tryd.func5, Tryd.ntmps5
      go_wp2_with fail
      refine (works_calls _ HT.out).mono ?_
      rintro e w1 ⟨rfl, hb⟩
      have n0_ := Aside0.mk (below_step HB.out hb); clear HB hb; have HB := n0_; clear n0_
      go_wp2_with fail
      refine (encode_bad s _ (by have := HS.out; omega) (HT.out.below HB.out) HV.out).mono ?_
      rintro e w2 ⟨rfl, hb⟩
      have n0_ := Aside0.mk (below_step HB.out hb); clear HB hb; have HB := n0_; clear n0_
      go_wp2_with fail
      refine (encode_bad t _ (by have := HS'.out; omega) (HT.out.below HB.out) HV2.out).mono ?_
      rintro e w3 ⟨rfl, hb⟩
      have n0_ := Aside0.mk (below_step HB.out hb); clear HB hb; have HB := n0_; clear n0_
      go_wp2
      go_ret
      exact ⟨rfl, HB.out⟩

/-- one byte, read -/
theorem dec_one (c : Int) (h0 : 0 ≤ c) (h1 : c ≤ 255) : decOut [c] = if 1 ≤ c ∧ c ≤ 127 then (runesBytes [c], 0, 0) else (⟨#[]⟩, 0, 20) := by
  by_cases h : 1 ≤ c ∧ c ≤ 127
  · have e : muts [c] = [c] := by unfold muts muts mu6; rw [if_pos h]; rfl
    have h3 := decOut_muts (cs := [c]) (fun d hd => by rw [List.mem_singleton] at hd; subst hd; unfold VR; omega)
    rw [e] at h3
    rw [if_pos h]; exact h3
  · have hu : unitL [c] = (0, 0) := by
      unfold unitL unitN
      simp only [List.length_cons, List.length_nil, List.getD_cons_zero]
      by_cases h2 : c = 0
      · rw [if_pos (.inr h2)]
      · rw [if_neg (by omega), if_neg (by omega), if_neg (by omega), if_neg (by omega)]
    have ht : (takeL [c]).2 = 0 := by unfold takeL; rw [hu, if_pos (by omega)]
    rw [if_neg h]
    unfold decOut
    rw [dec_stuck ht, if_neg (by simp)]
    rfl
theorem one_byte (c : Int) (h0 : 1 ≤ c) (h1 : c ≤ 127) : runesBytes [c] = strOfNums [c] := by
  apply ba_ext
  rw [runesBytes_us]
  simp [us, encodeRune, encodeRuneZ_one (show 0 ≤ c by omega) h1, strOfNums]
theorem muts_plain : ∀ {cs : List Int}, (∀ c ∈ cs, VR c) → ∀ x ∈ muts cs, x ≠ 0
  | [], _, x, h => by cases h
  | c :: t, hc, x, h => by
    rcases List.mem_append.1 h with h | h
    · exact mu6_plain c (hc c (by simp)) x h
    · exact muts_plain (fun d hd => hc d (by simp [hd])) x h

theorem u8_str (c : Int) (a : Nat) : (strOfNums [c]) = (⟨#[UInt8.ofNat c.toNat]⟩ : ByteArray) := rfl
set_option maxHeartbeats 8000000 in
set_option maxRecDepth 100000 in
theorem plain_tail (c : Int) (h0 : 0 ≤ c) (h1 : c ≤ 255) : decOut [c] = if 1 ≤ c ∧ c ≤ 127 then (strOfNums [c], 0, 0) else (⟨#[]⟩, 0, 20) := by
  rw [dec_one c h0 h1]
  by_cases h : 1 ≤ c ∧ c ≤ 127
  · rw [if_pos h, if_pos h, one_byte c h.1 h.2]
  · rw [if_neg h, if_neg h]
theorem conv_one (W : World) (c : Int) : (convert 23 9 (.slice (some ⟨W.heap.size, 0, none⟩) 1 1)).run Tryd.prog (W.alloc (.cells #[.int .u8 c] 5)) = .ok (.string (strOfNums [c])) (W.alloc (.cells #[.int .u8 c] 5)) := by
  have h := own_lit W W.heap.size 5 .u8 [c] (Nat.le_refl _) (by simp)
  exact own_string (P := Tryd.prog) Tryd.underlying23 Tryd.underlying5 Tryd.underlying9 h
/-- what Encode answered, and none of it is 0 -/
def PlainRow (w : World) (A : Option Addr) (n : Nat) (l : List Int) : Prop := Kd.C (Kd.int .u8) w A n l ∧ l.length = n ∧ ∀ x ∈ l, x ≠ 0
set_option maxHeartbeats 8000000 in
set_option maxRecDepth 100000 in
theorem textPlain_walk (s : ByteArray) (c : Int) (w : World) (hs : s.size ≤ 1048576) (hc : (Lit.int .u8 c).wf = true) (hT : Tabs w) :
    Calls Tryd.prog 7 #[.string s, .int .u8 c] w fun e w' => e = .returned (.bool true) ∧ Below w.heap.size w w' := by
  have HT := Aside0.mk hT
  have HB := Aside0.mk (Below.refl w.heap.size w)
  have HS := Aside0.mk hs
  obtain ⟨c0, c1⟩ := bounds_u8 hc
  have HP := Aside0.mk (plain_tail c c0 c1)
  have HCB := Aside0.mk (show Bytes [c] from fun x hx => by rw [List.mem_singleton] at hx; subst hx; omega)
  clear hT hc
  by_cases hv : validD s.data.toList = true
  · obtain ⟨cs, hcs, he, hl⟩ := chars_of hv
    have hml := muts_len cs
    have HX := Aside0.mk hcs
    have HE := Aside0.mk he
    have HL := Aside0.mk (show cs.length ≤ 1048576 by omega)
    have HNZ := Aside0.mk (muts_plain hcs)
    have hlen : ((muts cs).length : Int) ≤ 6291456 := by omega
    clear hv hcs he hl hml hs
    go_enter Tryd.func7, Tryd.ntmps7
    go_wp2_with fail
    refine (works_calls _ HT.out).mono ?_
    rintro e w1 ⟨rfl, hb⟩
    have n0_ := Aside0.mk (below_step HB.out hb); clear HB hb; have HB := n0_; clear n0_
    go_wp2_with fail
    refine (enc_good cs s _ HX.out HE.out (by have := HL.out; omega) (HT.out.below HB.out)).mono ?_
    rintro e w2 ⟨A, cp, rfl, hl, hC, ho, hb⟩
    have n0_ := Aside0.mk (below_step HB.out hb); clear HB hb ho; have HB := n0_; clear n0_
    have HC := Aside0.mk hC
    clear hC hl
    generalize muts cs = l at *
    go_wp2
    go_loopw [7] (fun i wr => ∃ k : Nat, i = .int .i64 (k : Int) ∧ k ≤ l.length ∧ wr = w2) (fun i _ => l.length - (RowKit.intOf i).toNat)
    case atStart => exact ⟨0, rfl, by omega, rfl⟩
    case round =>
      obtain ⟨k, rfl, hk, rfl⟩ := hrel
      by_cases hlt : k < l.length
      · have hltz : decide ((k : Int) < (l.length : Int)) = true := decide_eq_true (by omega)
        have hlt2 : (k : Int) < (l.length : Int) := by omega
        obtain ⟨ad, e1, hcell⟩ := Kd.at_int HC.out (k : Int) (by omega) hlt2
        cases e1
        rw [rd_getD, Int.toNat_natCast] at hcell
        have hx : l.getD k 0 ≠ 0 := HNZ.out _ (by rw [List.getD_eq_getElem?_getD, List.getElem?_eq_getElem hlt]; exact List.getElem_mem hlt)
        have hx0 : (l.getD k 0 == 0) = false := beq_eq_false_iff_ne.2 hx
        clear hx
        generalize l.getD k 0 = x at *
        go_wp2
        go_roundw
        case rel => exact ⟨k + 1, by go_num, by omega, by first | rfl | trivial⟩
        case measure => simp [RowKit.intOf]; omega
      · have hltz : decide ((k : Int) < (l.length : Int)) = false := decide_eq_false (by omega)
        by_cases hp : 1 ≤ c ∧ c ≤ 127
        · rw [if_pos hp] at HP
          have p1 : decide (1 ≤ c) = true := decide_eq_true hp.1
          have p2 : decide (c ≤ 127) = true := decide_eq_true hp.2
          have hcv := conv_one
          clear hp
          go_wp2_with fail
          refine (decode_eq HP.out HCB.out (lit_C [c] 1 rfl wr _ rfl _ (by simp)) rfl (Nat.le_refl _) (by simp)).mono ?_
          rintro e w3 ⟨rfl, hb⟩
          have n0_ := Aside0.mk (below_step (below_alloc HB.out _) hb); clear HB hb; have HB := n0_; clear n0_
          go_wp2
          go_ret
          exact ⟨rfl, below_alloc HB.out _⟩
        · rw [if_neg hp] at HP
          have hp2 : ¬ 1 ≤ c ∨ (1 ≤ c ∧ ¬ c ≤ 127) := by omega
          clear hp
          go_wp2_with fail
          refine (decode_eq HP.out HCB.out (lit_C [c] 1 rfl wr _ rfl _ (by simp)) rfl (Nat.le_refl _) (by simp)).mono ?_
          rintro e w3 ⟨rfl, hb⟩
          have n0_ := Aside0.mk (below_step (below_alloc HB.out _) hb); clear HB hb; have HB := n0_; clear n0_
          rcases hp2 with hp | ⟨hp, hp3⟩
          · have p1 : decide (1 ≤ c) = false := decide_eq_false (by omega)
            clear hp
            go_wp2
            go_ret
            exact ⟨rfl, HB.out⟩
          · have p1 : decide (1 ≤ c) = true := decide_eq_true hp
            have p2 : decide (c ≤ 127) = false := decide_eq_false (by omega)
            clear hp hp3
            go_wp2
            go_ret
            exact ⟨rfl, HB.out⟩
  · have HV := Aside0.mk (bnot hv)
    clear hv hs
    go_enter Tryd.func7, Tryd.ntmps7
    go_wp2_with fail
    refine (works_calls _ HT.out).mono ?_
    rintro e w1 ⟨rfl, hb⟩
    have n0_ := Aside0.mk (below_step HB.out hb); clear HB hb; have HB := n0_; clear n0_
    go_wp2_with fail
    refine (encode_bad s _ (by have := HS.out; omega) (HT.out.below HB.out) HV.out).mono ?_
    rintro e wr ⟨rfl, hb⟩
    have n0_ := Aside0.mk (below_step HB.out hb); clear HB hb; have HB := n0_; clear n0_
    go_wp2
    refine wp_loop_rounds 1 ?_; rw [rounds_succ]
    by_cases hp : 1 ≤ c ∧ c ≤ 127
    · rw [if_pos hp] at HP
      have p1 : decide (1 ≤ c) = true := decide_eq_true hp.1
      have p2 : decide (c ≤ 127) = true := decide_eq_true hp.2
      have hcv := conv_one
      clear hp
      go_wp2_with fail
      refine (decode_eq HP.out HCB.out (lit_C [c] 1 rfl wr _ rfl _ (by simp)) rfl (Nat.le_refl _) (by simp)).mono ?_
      rintro e w3 ⟨rfl, hb⟩
      have n0_ := Aside0.mk (below_step (below_alloc HB.out _) hb); clear HB hb; have HB := n0_; clear n0_
      go_wp2
      go_ret
      exact ⟨rfl, below_alloc HB.out _⟩
    · rw [if_neg hp] at HP
      have hp2 : ¬ 1 ≤ c ∨ (1 ≤ c ∧ ¬ c ≤ 127) := by omega
      clear hp
      go_wp2_with fail
      refine (decode_eq HP.out HCB.out (lit_C [c] 1 rfl wr _ rfl _ (by simp)) rfl (Nat.le_refl _) (by simp)).mono ?_
      rintro e w3 ⟨rfl, hb⟩
      have n0_ := Aside0.mk (below_step (below_alloc HB.out _) hb); clear HB hb; have HB := n0_; clear n0_
      rcases hp2 with hp | ⟨hp, hp3⟩
      · have p1 : decide (1 ≤ c) = false := decide_eq_false (by omega)
        clear hp
        go_wp2
        go_ret
        exact ⟨rfl, HB.out⟩
      · have p1 : decide (1 ≤ c) = true := decide_eq_true hp
        have p2 : decide (c ≤ 127) = false := decide_eq_false (by omega)
        clear hp hp3
        go_wp2
        go_ret
        exact ⟨rfl, HB.out⟩
end Go.Proofs.YthjbkgpjcfdnoaaDoor.Ext

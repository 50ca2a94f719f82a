/- The Go functions warpbeamref02.Encode and Len, walked: they answer as package text does. -/
import Derived.Test.YtkhigagkgpfpfaaDoorTextLen
import Derived.Lib.IndexBytes
set_option linter.unusedVariables false
set_option linter.unusedSimpArgs false
namespace Go.Proofs.YtkhigagkgpfpfaaDoor.Ext
open Go.RowKit Go.Lib Go.Proofs.YtkhigagkgpfpfaaDoorW.PrintWords Go.Proofs.YtkhigagkgpfpfaaDoorW.PrintLast Go.Proofs.YtkhigagkgpfpfaaDoorW.PrintMore Go.Proofs.YtkhigagkgpfpfaaDoor.PLeb
attribute [local go_sem] max2_int min2_int max_two min_two max_three min_three max_four min_four

theorem i64_and (i : Nat) (hi : i ≤ 63) (x : Int) (h0 : 0 ≤ x) (h1 : x < 9223372036854775808) : bits .and .i64 x (2 ^ i - 1) = x % 2 ^ i :=
  bits_mask .i64 63 (by decide) (fun n a b => by rw [IntKind.wrap_i64]; omega) i hi x h0 h1
theorem i64_orj (i : Nat) (hi : i ≤ 63) (x y : Int) (h0 : 0 ≤ x) (h : x % 2 ^ i = 0) (h1 : x < 9223372036854775808) (h2 : 0 ≤ y) (h3 : y < 2 ^ i) (h4 : y < 9223372036854775808 := by omega) : bits .or .i64 x y = x + y :=
  bits_join .i64 63 (by decide) (fun n a b => by rw [IntKind.wrap_i64]; omega) i x y h0 h h1 h2 h3 h4
theorem i64_and63 (x : Int) (h0 : 0 ≤ x) (h1 : x < 9223372036854775808) : bits .and .i64 x 63 = x % 64 := i64_and 6 (by omega) x h0 h1
theorem i64_and1023 (x : Int) (h0 : 0 ≤ x) (h1 : x < 9223372036854775808) : bits .and .i64 x 1023 = x % 1024 := i64_and 10 (by omega) x h0 h1
theorem three_f (c : Int) (h0 : 0 ≤ c) (h1 : c ≤ 65535) : R2_three.f c = some (m3 c) := by
  unfold R2_three.f m3
  have e0 : bits .or .i64 224 (c / 4096) = 224 + c / 4096 := i64_orj 4 (by omega) _ _ (by omega) (by omega) (by omega) (by omega) (by omega)
  have e1 : bits .and .i64 (c / 64) 63 = c / 64 % 64 := i64_and63 _ (by omega) (by omega)
  have e2 : bits .or .i64 128 (c / 64 % 64) = 128 + c / 64 % 64 := i64_orj 6 (by omega) _ _ (by omega) (by omega) (by omega) (by omega) (by omega)
  have e3 : bits .and .i64 c 63 = c % 64 := i64_and63 _ (by omega) (by omega)
  have e4 : bits .or .i64 128 (c % 64) = 128 + c % 64 := i64_orj 6 (by omega) _ _ (by omega) (by omega) (by omega) (by omega) (by omega)
  rw [e0, e1, e2, e3, e4, show (224 + c / 4096) % 256 = 224 + c / 4096 by omega, show (128 + c / 64 % 64) % 256 = 128 + c / 64 % 64 by omega, show (128 + c % 64) % 256 = 128 + c % 64 by omega]
theorem char_f (c : Int) (hc : VR c) : R2_char.f 5 c = some (mu6 c) := by
  unfold VR at hc
  unfold R2_char.f mu6
  by_cases h1 : 1 ≤ c ∧ c ≤ 127
  · rw [if_pos (show c ≥ 1 from h1.1), decide_eq_true h1.2, if_pos h1]
    simp only [R2_char.j0, if_true]
    rw [show c % 256 = c by omega]
  · have e : (if c ≥ 1 then R2_char.j0 5 c (decide (c ≤ 127)) else R2_char.j0 5 c false) = R2_char.j0 5 c false := by
      by_cases h : c ≥ 1
      · rw [if_pos h, decide_eq_false (by omega)]
      · rw [if_neg h]
    rw [e, if_neg h1]
    simp only [R2_char.j0, Bool.false_eq_true, if_false]
    by_cases h2 : c ≤ 2047
    · have e1 : bits .or .i64 192 (c / 64) = 192 + c / 64 := i64_orj 6 (by omega) _ _ (by omega) (by omega) (by omega) (by omega) (by omega)
      have e2 : bits .and .i64 c 63 = c % 64 := i64_and63 _ (by omega) (by omega)
      have e3 : bits .or .i64 128 (c % 64) = 128 + c % 64 := i64_orj 6 (by omega) _ _ (by omega) (by omega) (by omega) (by omega) (by omega)
      rw [if_pos h2, if_pos h2, e1, e2, e3, show (192 + c / 64) % 256 = 192 + c / 64 by omega, show (128 + c % 64) % 256 = 128 + c % 64 by omega]
    · rw [if_neg h2, if_neg h2]
      by_cases h3 : c ≤ 65535
      · rw [if_pos h3, if_pos h3, three_f c (by omega) h3, Option.bind_some]
      · have e0 : wrap64 (c - 65536) = c - 65536 := wrap64_id _ (by omega) (by omega)
        have e1 : bits .or .i64 55296 ((c - 65536) / 1024) = 55296 + (c - 65536) / 1024 := i64_orj 10 (by omega) _ _ (by omega) (by omega) (by omega) (by omega) (by omega)
        have e2 : bits .and .i64 (c - 65536) 1023 = (c - 65536) % 1024 := i64_and1023 _ (by omega) (by omega)
        have e3 : bits .or .i64 56320 ((c - 65536) % 1024) = 56320 + (c - 65536) % 1024 := i64_orj 10 (by omega) _ _ (by omega) (by omega) (by omega) (by omega) (by omega)
        rw [if_neg h3, if_neg h3, e0, e1, e2, e3, three_f _ (by omega) (by omega), Option.bind_some, three_f _ (by omega) (by omega), Option.bind_some, if_pos (by simp [m3])]
theorem dri_calls (s : ByteArray) (pos : Nat) (c n : Nat) (w : World) (hT : Tabs w) (hp : pos < s.size) (hd : Utf8.decode s pos = (c, n)) :
    Calls Tryd.prog 67 #[.string (s.extract pos s.size)] w fun e w' => e = .returned (.tuple #[.int .i32 (c : Int), .int .i64 (n : Int)]) ∧ Below w.heap.size w w' := by
  have h := Tryd.utf8_DecodeRuneInString (s.extract pos s.size) w hT
  have hs : ¬ (s.extract pos s.size).size = 0 := by rw [ext_size]; omega
  have e : decodeGo (s.extract pos s.size) = (c, n) := by
    unfold decodeGo
    rw [if_neg hs, ← decodeL_drop, List.drop_zero, extract_to_end, decodeL_drop, hd]
  rwa [e] at h
/-- so far it is a text; what is left is none -/
def BadInv (s : ByteArray) (done : List Int) (pos : Nat) : Prop := pos = (us done).length ∧ pos < s.size ∧ (∀ c ∈ done, VR c) ∧ validD (s.data.toList.drop pos) = false
theorem BadInv.start {s : ByteArray} (h : validD s.data.toList = false) : BadInv s [] 0 := by
  refine ⟨rfl, ?_, (fun c hc => by cases hc), by rw [List.drop_zero]; exact h⟩
  rcases Nat.eq_zero_or_pos s.size with h0 | h0
  · have : s.data.toList = [] := List.eq_nil_of_length_eq_zero (by rw [Array.length_toList]; exact h0)
    rw [this] at h; cases h
  · exact h0
theorem BadInv.next {s : ByteArray} {dn : List Int} {pos : Nat} (h : BadInv s dn pos) : Utf8.decode s pos = (65533, 1) ∨
    ∃ c, VR c ∧ Utf8.decode s pos = (c.toNat, (encodeRune c).length) ∧ BadInv s (dn ++ [c]) (pos + (encodeRune c).length) := by
  obtain ⟨h1, h2, h3, h4⟩ := h
  have hl : (s.data.toList.drop pos).length = s.size - pos := by rw [List.length_drop, Array.length_toList]; rfl
  have hne : s.data.toList.drop pos ≠ [] := by intro e; rw [e] at hl; simp at hl; omega
  rw [← decodeL_drop]
  by_cases hb : (decodeL (s.data.toList.drop pos)).1 = 65533 ∧ (decodeL (s.data.toList.drop pos)).2 = 1
  · left; exact Prod.ext hb.1 hb.2
  · right
    obtain ⟨hv, he⟩ := dec_good _ hne hb
    rw [validD_step _ hne, if_neg hb, List.drop_drop] at h4
    refine ⟨_, hv, ?_, by rw [us_append, List.length_append, h1]; simp [us], ?_, ?_, ?_⟩
    · have e2 := dec_enc _ ((s.data.toList.drop pos).drop (decodeL (s.data.toList.drop pos)).2) hv
      rw [← he] at e2; exact e2
    · have e2 := dec_enc _ ((s.data.toList.drop pos).drop (decodeL (s.data.toList.drop pos)).2) hv
      rw [← he] at e2
      have e3 : (decodeL (s.data.toList.drop pos)).2 = (encodeRune ((decodeL (s.data.toList.drop pos)).1 : Int)).length := congrArg Prod.snd e2
      rw [← e3]
      rcases Nat.lt_or_ge (pos + (decodeL (s.data.toList.drop pos)).2) s.size with h | h
      · exact h
      · have : s.data.toList.drop (pos + (decodeL (s.data.toList.drop pos)).2) = [] := List.drop_eq_nil_of_le (by rw [Array.length_toList]; exact h)
        rw [this] at h4; cases h4
    · intro c hc
      rcases List.mem_append.1 hc with hc | hc
      · exact h3 c hc
      · rw [List.mem_singleton] at hc; subst hc; exact hv
    · have e2 := dec_enc _ ((s.data.toList.drop pos).drop (decodeL (s.data.toList.drop pos)).2) hv
      rw [← he] at e2
      have e3 : (decodeL (s.data.toList.drop pos)).2 = (encodeRune ((decodeL (s.data.toList.drop pos)).1 : Int)).length := congrArg Prod.snd e2
      rw [← e3]; exact h4
set_option maxHeartbeats 8000000 in
set_option maxRecDepth 100000 in
theorem rencode_good (cs : List Int) (s : ByteArray) (w : World) (hcs : ∀ c ∈ cs, VR c) (he : s.data.toList = us cs) (hm : cs.length ≤ 17592186044416) (hT : Tabs w) :
    Calls Tryd.prog 53 #[.string s] w fun e w' => ∃ v0_ : Value, e = .returned (.tuple #[v0_, .int .i64 0]) ∧ Kd.R (Kd.int .u8) 5 w' w.heap.size (fun _ => True) v0_ (muts cs) ∧ Below w.heap.size w w' := by
  have hul := us_len cs
  have hsz := size_us he
  have hs : s.size ≤ 4611686018427387904 := by omega
  have HE := Aside0.mk he
  have HC := Aside0.mk hcs
  have HM := Aside0.mk hm
  have HT := Aside0.mk hT
  have HB := Aside0.mk (Below.refl w.heap.size w)
  clear he hcs hul hsz hm hT
  go_enter Tryd.func53, Tryd.ntmps53
  go_wp2
  go_loopw [4, 5] (fun v a wr => ∃ (pos : Nat) (dn : List Int) (vv : Value), a = .int .i64 (pos : Int) ∧ v = vv ∧ pos ≤ s.size ∧ Aside0 (Kd.R (Kd.int .u8) 5 wr w.heap.size (fun _ => True) vv (muts dn)) ∧ Aside0 (Below w.heap.size w wr) ∧ Aside0 (EncInv cs dn pos s)) (fun _ a _ => s.size - (RowKit.intOf a).toNat)
  case atStart =>
    refine ⟨0, [], _, rfl, rfl, by omega, ⟨Kd.R_nil _ _ _ _ _⟩, HB, ⟨cs, rfl, rfl, ?_⟩⟩
    rw [List.drop_zero]; exact HE.out
  case round =>
    obtain ⟨pos, dn, v, rfl, hv, hps, HO, HBr, HX⟩ := hrel
    have hv' := hv.symm
    subst hv'
    clear HB
    have HB := HBr
    clear HBr
    by_cases hp : pos < s.size
    · have hltz : decide ((pos : Int) < (s.size : Int)) = true := decide_eq_true (by omega)
      have hple : (pos : Int) ≤ (s.size : Int) := by omega
      obtain ⟨c, hc, hd, HX2⟩ := HX.out.more HC.out hp HE.out
      have hce := enc_pos c
      have HX2 := Aside0.mk HX2
      have hcc : ((c.toNat : Nat) : Int) = c := by unfold VR at hc; omega
      have hcr : 0 ≤ c ∧ c ≤ 1114111 := by unfold VR at hc; omega
      have hdl := HX.out.len
      have hml := muts_len dn
      have HD := Aside0.mk (fun (w1 : World) (hb : Below w.heap.size w w1) => dri_calls s pos _ _ w1 (HT.out.below hb) hp hd)
      rw [hcc] at HD
      have HCF := Aside0.mk (char_f c hc)
      have hm6 := mu6_pos c
      have HLN := Aside0.mk (show (muts dn).length ≤ 105553116266496 by have := HM.out; omega)
      have hmz : muts dn ++ mu6 c = muts (dn ++ [c]) := by rw [muts_append]; simp [muts]
      have HMZ := Aside0.mk hmz
      have HM6 := Aside0.mk hm6
      have h3 : c = 65533 → (encodeRune c).length = 3 := by
        intro e; subst e
        simp [encodeRune, encodeRuneZ_three (show (2048 ≤ (65533 : Int) ∧ (65533 : Int) < 55296) ∨ (57343 < (65533 : Int) ∧ (65533 : Int) ≤ 65535) by omega)]
      have hpl : pos + (encodeRune c).length ≤ s.size := by
        obtain ⟨todo, a1, a2, a3⟩ := HX2.out
        have hl := congrArg List.length a3
        rw [List.length_drop, Array.length_toList] at hl
        have h5 : (us (dn ++ [c])).length ≤ (us cs).length := by rw [a1, us_append (dn ++ [c])]; simp
        rw [size_us HE.out]; omega
      generalize (encodeRune c).length = n at *
      obtain ⟨c0, c1⟩ := hcr
      clear hc hd hcc hdl hml hm6 hmz
      by_cases h65 : c = 65533
      · have e65 : (c == 65533) = true := by simp [h65]
        have en := h3 h65
        have dn2 : decide ((n : Int) < 2) = false := decide_eq_false (by omega)
        clear h65 h3 en
        go_wp2_with fail
        refine (HD.out _ HB.out).mono ?_
        rintro e w1 ⟨rfl, hb⟩
        have n0_ := Aside0.mk (below_step HB.out hb); clear HB; have HB := n0_; clear n0_
        have n0_ := Aside0.mk (Kd.R_below HO.out hb); clear HO hb; have HO := n0_; clear n0_
        go_wp2_with fail
        refine (R2_char.calls 5 c _ _ HCF.out).mono ?_
        rintro e w2 ⟨v2, rfl, ho, hb⟩
        have n0_ := Aside0.mk (Kd.R_below HO.out hb); clear HO; have HO := n0_; clear n0_
        have n0_ := Aside0.mk (below_step HB.out hb); clear HB hb; have HB := n0_; clear n0_
        obtain ⟨A2, c2, rfl, hl2, hC2⟩ := Kd.R_reads ho
        have HC2 := Aside0.mk hC2
        clear hl2 hC2 ho
        go_wp2_with (at_builtin; refine Kd.R_append_rows (Kd.int .u8) (w0 := w) w.heap.size rfl _ _ 22 5 (.int .u8 0) 1 rfl Tryd.underlying22 infoB rfl (by decide) (by omega) v (muts dn) (mu6 c) A2 (mu6 c).length c2 (fun _ => True) (fun _ => False) rfl rfl HO.out HC2.out (fun _ _ h => h) (fun _ h => h.elim) (fun _ _ => trivial) HB.out (below_size HB.out) (by have := HLN.out; have := HM6.out; omega) ?_; intro v1 w5 ho hb hg hat; rw [HMZ.out] at ho; have HO1 := Aside0.mk ho; have HB1 := Aside0.mk hb; clear ho hb hg hat)
        go_roundw
        case rel => exact ⟨pos + n, dn ++ [c], _, by go_num, rfl, by omega, HO1, HB1, HX2⟩
        case measure => simp [RowKit.intOf]; omega
      · have e65 : (c == 65533) = false := by simp [h65]
        clear h65 h3
        go_wp2_with fail
        refine (HD.out _ HB.out).mono ?_
        rintro e w1 ⟨rfl, hb⟩
        have n0_ := Aside0.mk (below_step HB.out hb); clear HB; have HB := n0_; clear n0_
        have n0_ := Aside0.mk (Kd.R_below HO.out hb); clear HO hb; have HO := n0_; clear n0_
        go_wp2_with fail
        refine (R2_char.calls 5 c _ _ HCF.out).mono ?_
        rintro e w2 ⟨v2, rfl, ho, hb⟩
        have n0_ := Aside0.mk (Kd.R_below HO.out hb); clear HO; have HO := n0_; clear n0_
        have n0_ := Aside0.mk (below_step HB.out hb); clear HB hb; have HB := n0_; clear n0_
        obtain ⟨A2, c2, rfl, hl2, hC2⟩ := Kd.R_reads ho
        have HC2 := Aside0.mk hC2
        clear hl2 hC2 ho
        go_wp2_with (at_builtin; refine Kd.R_append_rows (Kd.int .u8) (w0 := w) w.heap.size rfl _ _ 22 5 (.int .u8 0) 1 rfl Tryd.underlying22 infoB rfl (by decide) (by omega) v (muts dn) (mu6 c) A2 (mu6 c).length c2 (fun _ => True) (fun _ => False) rfl rfl HO.out HC2.out (fun _ _ h => h) (fun _ h => h.elim) (fun _ _ => trivial) HB.out (below_size HB.out) (by have := HLN.out; have := HM6.out; omega) ?_; intro v1 w5 ho hb hg hat; rw [HMZ.out] at ho; have HO1 := Aside0.mk ho; have HB1 := Aside0.mk hb; clear ho hb hg hat)
        go_roundw
        case rel => exact ⟨pos + n, dn ++ [c], _, by go_num, rfl, by omega, HO1, HB1, HX2⟩
        case measure => simp [RowKit.intOf]; omega
    · have hltz : decide ((pos : Int) < (s.size : Int)) = false := decide_eq_false (by omega)
      have e := HX.out.done hp
      subst e
      go_wp2
      go_ret2
      exact ⟨_, rfl, HO.out, HB.out⟩
set_option maxHeartbeats 8000000 in
set_option maxRecDepth 100000 in
theorem rencode_bad (s : ByteArray) (w : World) (hs : s.size ≤ 17592186044416) (hT : Tabs w) (hv : validD s.data.toList = false) :
    Calls Tryd.prog 53 #[.string s] w fun e w' => e = .returned (.tuple #[.slice none 0 0, .int .i64 20]) ∧ Below w.heap.size w w' := by
  have HV := Aside0.mk hv
  have HT := Aside0.mk hT
  have HS := Aside0.mk hs
  have HB := Aside0.mk (Below.refl w.heap.size w)
  clear hv hT
  go_enter Tryd.func53, Tryd.ntmps53
  go_wp2
  go_loopw [4, 5] (fun v a wr => ∃ (pos : Nat) (dn : List Int) (vv : Value), a = .int .i64 (pos : Int) ∧ v = vv ∧ Aside0 (Kd.R (Kd.int .u8) 5 wr w.heap.size (fun _ => True) vv (muts dn)) ∧ Aside0 (Below w.heap.size w wr) ∧ Aside0 (BadInv s dn pos)) (fun _ a _ => s.size - (RowKit.intOf a).toNat)
  case atStart =>
    exact ⟨0, [], _, rfl, rfl, ⟨Kd.R_nil _ _ _ _ _⟩, HB, ⟨BadInv.start HV.out⟩⟩
  case round =>
    obtain ⟨pos, dn, v, rfl, hv, HO, HBr, HX⟩ := hrel
    have hv' := hv.symm
    subst hv'
    clear HB
    have HB := HBr
    clear HBr
    have hp := HX.out.2.1
    have hltz : decide ((pos : Int) < (s.size : Int)) = true := decide_eq_true (by omega)
    have hple : (pos : Int) ≤ (s.size : Int) := by omega
    rcases HX.out.next with hd | ⟨c, hc, hd, hx2⟩
    · have HD := Aside0.mk (fun (w1 : World) (hb : Below w.heap.size w w1) => dri_calls s pos _ _ w1 (HT.out.below hb) hp hd)
      clear hd
      go_wp2_with fail
      refine (HD.out _ HB.out).mono ?_
      rintro e w1 ⟨rfl, hb⟩
      have n0_ := Aside0.mk (below_step HB.out hb); clear HB hb; have HB := n0_; clear n0_
      go_wp2
      go_ret2
      exact ⟨rfl, HB.out⟩
    · have hce := enc_pos c
      have HX2 := Aside0.mk hx2
      have hcc : ((c.toNat : Nat) : Int) = c := by unfold VR at hc; omega
      have hcr : 0 ≤ c ∧ c ≤ 1114111 := by unfold VR at hc; omega
      have HD := Aside0.mk (fun (w1 : World) (hb : Below w.heap.size w w1) => dri_calls s pos _ _ w1 (HT.out.below hb) hp hd)
      rw [hcc] at HD
      have HCF := Aside0.mk (char_f c hc)
      have hml := muts_len dn
      have hdl := us_len dn
      have hdp := HX.out.1
      have HLN := Aside0.mk (show (muts dn).length ≤ 105553116266496 by omega)
      have HMZ := Aside0.mk (show muts dn ++ mu6 c = muts (dn ++ [c]) by rw [muts_append]; simp [muts])
      have HM6 := Aside0.mk (mu6_pos c)
      have hpl := hx2.2.1
      have h3 : c = 65533 → (encodeRune c).length = 3 := by
        intro e; subst e
        simp [encodeRune, encodeRuneZ_three (show (2048 ≤ (65533 : Int) ∧ (65533 : Int) < 55296) ∨ (57343 < (65533 : Int) ∧ (65533 : Int) ≤ 65535) by omega)]
      generalize (encodeRune c).length = n at *
      obtain ⟨c0, c1⟩ := hcr
      have hpn : (pos : Int) + (n : Int) ≤ 17592186044416 := by omega
      clear hc hd hcc hx2 hml hdl hdp
      have h65 : (c == 65533) = false ∨ ((c == 65533) = true ∧ decide ((n : Int) < 2) = false) := by
        by_cases h : c = 65533
        · exact .inr ⟨by simp [h], decide_eq_false (by have := h3 h; omega)⟩
        · exact .inl (by simp [h])
      clear h3
      rcases h65 with e65 | ⟨e65, dn2⟩
      all_goals
        go_wp2_with fail
        refine (HD.out _ HB.out).mono ?_
        rintro e w1 ⟨rfl, hb⟩
        have n0_ := Aside0.mk (below_step HB.out hb); clear HB; have HB := n0_; clear n0_
        have n0_ := Aside0.mk (Kd.R_below HO.out hb); clear HO hb; have HO := n0_; clear n0_
        go_wp2_with fail
        refine (R2_char.calls 5 c _ _ HCF.out).mono ?_
        rintro e w2 ⟨v2, rfl, ho, hb⟩
        have n0_ := Aside0.mk (Kd.R_below HO.out hb); clear HO; have HO := n0_; clear n0_
        have n0_ := Aside0.mk (below_step HB.out hb); clear HB hb; have HB := n0_; clear n0_
        obtain ⟨A2, c2, rfl, hl2, hC2⟩ := Kd.R_reads ho
        have HC2 := Aside0.mk hC2
        clear hl2 hC2 ho
        go_wp2_with (at_builtin; refine Kd.R_append_rows (Kd.int .u8) (w0 := w) w.heap.size rfl _ _ 22 5 (.int .u8 0) 1 rfl Tryd.underlying22 infoB rfl (by decide) (by omega) v (muts dn) (mu6 c) A2 (mu6 c).length c2 (fun _ => True) (fun _ => False) rfl rfl HO.out HC2.out (fun _ _ h => h) (fun _ h => h.elim) (fun _ _ => trivial) HB.out (below_size HB.out) (by have := HLN.out; have := HM6.out; omega) ?_; intro v1 w5 ho hb hg hat; rw [HMZ.out] at ho; have HO1 := Aside0.mk ho; have HB1 := Aside0.mk hb; clear ho hb hg hat)
        go_roundw
        case rel => exact ⟨pos + n, dn ++ [c], _, by go_num, rfl, HO1, HB1, HX2⟩
        case measure => simp [RowKit.intOf]; omega
theorem renc_good (cs : List Int) (s : ByteArray) (w : World) (hcs : ∀ c ∈ cs, VR c) (he : s.data.toList = us cs) (hm : cs.length ≤ 17592186044416) (hT : Tabs w) :
    Calls Tryd.prog 53 #[.string s] w fun e w' => ∃ (A : Option Addr) (c : Nat), e = .returned (.tuple #[.slice A (muts cs).length c, .int .i64 0]) ∧ (muts cs).length ≤ c ∧ Kd.C (Kd.int .u8) w' A (muts cs).length (muts cs) ∧ Kd.R (Kd.int .u8) 5 w' w.heap.size (fun _ => True) (.slice A (muts cs).length c) (muts cs) ∧ Below w.heap.size w w' := by
  refine (rencode_good cs s w hcs he hm hT).mono ?_
  rintro e w' ⟨v, rfl, ho, hb⟩
  obtain ⟨A, c, rfl, hl, hC⟩ := Kd.R_reads ho
  exact ⟨A, c, rfl, hl, hC, ho, hb⟩
end Go.Proofs.YtkhigagkgpfpfaaDoor.Ext

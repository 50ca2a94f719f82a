/- text.Len, walked; comparing and copying bytes. -/
import Derived.Test.YtkhigagkgpfpfaaDoorTextEncode
import Derived.Test.YtkhigagkgpfpfaaDoorTextDecode
set_option linter.unusedVariables false
set_option linter.unusedSimpArgs false
namespace Go.Proofs.YtkhigagkgpfpfaaDoor.Ext
open Go.RowKit Go.Lib Go.Proofs.YtkhigagkgpfpfaaDoorW.PrintWords Go.Proofs.YtkhigagkgpfpfaaDoorW.PrintLast Go.Proofs.YtkhigagkgpfpfaaDoorW.PrintMore Go.Proofs.YtkhigagkgpfpfaaDoor.PLeb
attribute [local go_sem] max2_int min2_int max_two min_two max_three min_three max_four min_four

theorem wrap64_id (n : Int) (h0 : -9223372036854775808 ≤ n) (h1 : n ≤ 9223372036854775807) : wrap64 n = n := by unfold wrap64; omega
abbrev Big47 : Nat := 140737488355300
theorem Eq_l0 (a b : List Int) (hl : a.length = b.length) (hm : a.length ≤ Big47) (d : Nat) : ∀ (k : Nat) (i : Int), 0 ≤ i → i ≤ a.length → (a.length : Int) - i = d → d < k → R0_EqBytes.l0 k a b i = some (decide (a.drop i.toNat = b.drop i.toNat)) := by
  induction d with
  | zero =>
    intro k i h0 h1 hd hk
    obtain ⟨k, rfl⟩ : ∃ m, k = m + 1 := ⟨k - 1, by omega⟩
    simp only [R0_EqBytes.l0]
    rw [if_neg (by omega), List.drop_eq_nil_of_le (by omega), List.drop_eq_nil_of_le (by omega), decide_eq_true rfl]
  | succ d ih =>
    intro k i h0 h1 hd hk
    obtain ⟨k, rfl⟩ : ∃ m, k = m + 1 := ⟨k - 1, by omega⟩
    simp only [R0_EqBytes.l0]
    obtain ⟨j, rfl⟩ : ∃ j : Nat, i = (j : Int) := ⟨i.toNat, by omega⟩
    rw [if_pos (by omega), if_pos h0, if_pos (by omega), Int.toNat_natCast, drop_rd a j (by omega), drop_rd b j (by omega)]
    by_cases he : rd a (j : Int) = rd b (j : Int)
    · have hB : Big47 = 140737488355300 := rfl
      rw [if_pos he, wrap64_id _ (by omega) (by omega), ih k ((j : Int) + 1) (by omega) (by omega) (by omega) (by omega), show ((j : Int) + 1).toNat = j + 1 by omega, he]
      congr 1
      simp
    · rw [if_neg he]
      congr 1
      symm
      apply decide_eq_false
      intro h
      injection h with h _
      exact he h
theorem Eq_f (a b : List Int) (k : Nat) (hm : a.length ≤ Big47) (hk : a.length < k) : R0_EqBytes.f k a b = some (decide (a = b)) := by
  unfold R0_EqBytes.f
  by_cases hl : a.length = b.length
  · rw [if_pos (by omega), Eq_l0 a b hl hm a.length k 0 (by omega) (by omega) (by omega) hk]; rfl
  · rw [if_neg (by omega)]
    congr 1
    symm
    exact decide_eq_false (fun h => hl (by rw [h]))
theorem Copy_f (l : List Int) (h : l.length ≤ Big47) : R0_CopyBytes.f l = some l := by
  unfold R0_CopyBytes.f
  rw [if_pos (by simp only [List.length_nil]; have : Big47 = 140737488355300 := rfl; omega)]; rfl
section
variable {w : World} {A0 A1 : Option Addr} {c0 c1 : Nat}
theorem eq_calls {l0 l1 : List Int} {n0 n1 : Nat} (b : Bool) (hr0 : Kd.C (Kd.int .u8) w A0 l0.length l0) (hn0 : l0.length = n0) (hc0 : n0 ≤ c0) (hr1 : Kd.C (Kd.int .u8) w A1 l1.length l1) (hn1 : l1.length = n1) (hc1 : n1 ≤ c1) (hm : n0 ≤ 140737488355300) (hb : decide (l0 = l1) = b) :
    Calls Tryd.prog 16 #[.slice A0 n0 c0, .slice A1 n1 c1] w fun e w' => e = .returned (.bool b) ∧ Below w.heap.size w w' := by
  subst hn0; subst hn1; subst hb
  exact (R0_EqBytes.calls (l0.length + 1) A0 c0 l0 A1 c1 l1 _ w hr0 hc0 hr1 hc1 (Eq_f l0 l1 _ hm (by omega))).mono fun e w' ⟨h1, h2⟩ => ⟨h1, h2.below⟩
theorem copy_calls {l0 : List Int} {n0 : Nat} (hr0 : Kd.C (Kd.int .u8) w A0 l0.length l0) (hn0 : l0.length = n0) (hc0 : n0 ≤ c0) (hm : n0 ≤ 140737488355300) :
    Calls Tryd.prog 12 #[.slice A0 n0 c0] w fun e w' => ∃ v0_ : Value, e = .returned (v0_) ∧ Kd.R (Kd.int .u8) 5 w' w.heap.size (fun _ => True) v0_ l0 ∧ Below w.heap.size w w' := by
  subst hn0; exact R0_CopyBytes.calls A0 c0 l0 l0 w hr0 hc0 (Copy_f l0 hm)
end
/-- Encode's answer, the row laid open -/
theorem enc_good (cs : List Int) (s : ByteArray) (w : World) (hcs : ∀ c ∈ cs, VR c) (he : s.data.toList = us cs) (hm : cs.length ≤ 17592186044416) (hT : Tabs w) :
    Calls Tryd.prog 49 #[.string s] w fun e w' => ∃ (A : Option Addr) (c : Nat), e = .returned (.tuple #[.slice A (muts cs).length c, .int .i64 0]) ∧ (muts cs).length ≤ c ∧ Kd.C (Kd.int .u8) w' A (muts cs).length (muts cs) ∧ Kd.R (Kd.int .u8) 5 w' w.heap.size (fun _ => True) (.slice A (muts cs).length c) (muts cs) ∧ Below w.heap.size w w' := by
  refine (encode_good cs s w hcs he hm hT).mono ?_
  rintro e w' ⟨v, rfl, ho, hb⟩
  obtain ⟨A, c, rfl, hl, hC⟩ := Kd.R_reads ho
  exact ⟨A, c, rfl, hl, hC, ho, hb⟩
theorem str_us {s : ByteArray} {cs : List Int} (he : s.data.toList = us cs) : runesBytes cs = s := ba_ext (by rw [runesBytes_us, he])
theorem decOut_muts {cs : List Int} (hcs : ∀ c ∈ cs, VR c) : decOut (muts cs) = (runesBytes cs, 0, 0) := by
  unfold decOut; rw [dec_muts cs hcs, if_pos rfl]
theorem decode_eq {l : List Int} {A : Option Addr} {c n : Nat} {w : World} {R1 : ByteArray} {R2 R3 : Int} (hd : decOut l = (R1, R2, R3)) (hby : Bytes l) (hr : Kd.C (Kd.int .u8) w A l.length l) (hn : l.length = n) (hc : n ≤ c) (hm : n ≤ 35184372088831) :
    Calls Tryd.prog 111 #[.slice A n c] w fun e w' => e = .returned (.tuple #[.string R1, .int .i64 R2, .int .i64 R3]) ∧ Below w.heap.size w w' := by
  subst hn
  have := decode_calls l A c w hby hr hc hm
  rwa [hd] at this
set_option maxHeartbeats 4000000 in
set_option maxRecDepth 100000 in
theorem len_good (cs : List Int) (s : ByteArray) (w : World) (hcs : ∀ c ∈ cs, VR c) (he : s.data.toList = us cs) (hm : cs.length ≤ 17592186044416) (hT : Tabs w) :
    Calls Tryd.prog 62 #[.string s] w fun e w' => e = .returned (.tuple #[.int .i64 ((muts cs).length : Int), .int .i64 0]) ∧ Below w.heap.size w w' := by
  have HE := Aside0.mk (enc_good cs s w hcs he hm hT)
  clear hcs he hm hT
  go_enter Tryd.func62, Tryd.ntmps62
  go_wp2_with fail
  refine HE.out.mono ?_
  rintro e w1 ⟨A, c, rfl, hl, hC, ho, hb⟩
  have HB := Aside0.mk hb
  clear hC ho hb
  go_wp2
  go_ret2
  exact ⟨rfl, HB.out⟩
set_option maxHeartbeats 4000000 in
set_option maxRecDepth 100000 in
theorem len_bad (s : ByteArray) (w : World) (hs : s.size ≤ 9223372036854775807) (hT : Tabs w) (hv : Lib.validD s.data.toList = false) :
    Calls Tryd.prog 62 #[.string s] w fun e w' => e = .returned (.tuple #[.int .i64 0, .int .i64 20]) ∧ Below w.heap.size w w' := by
  have HE := Aside0.mk (encode_bad s w hs hT hv)
  clear hv hs hT
  go_enter Tryd.func62, Tryd.ntmps62
  go_wp2_with fail
  refine HE.out.mono ?_
  rintro e w1 ⟨rfl, hb⟩
  have HB := Aside0.mk hb
  clear hb
  go_wp2
  go_ret2
  exact ⟨rfl, HB.out⟩
theorem below_step {w w1 w2 : World} (h : Below w.heap.size w w1) (k : Below w1.heap.size w1 w2) : Below w.heap.size w w2 := below_then h h.size k
end Go.Proofs.YtkhigagkgpfpfaaDoor.Ext

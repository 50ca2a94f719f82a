/- The laws TextBack, TextAgain and TextPlaces, walked. -/
import Derived.Test.YthjbkgpjcfdnoaaDoorTextWorks
import Derived.OpenShut
import Derived.ProofKit
set_option linter.unusedVariables false
set_option linter.unusedSimpArgs false
namespace Go.Proofs.YthjbkgpjcfdnoaaDoor.Ext
open Go.RowKit Go.Lib Go.Proofs.YthjbkgpjcfdnoaaDoorW.PrintWords Go.Proofs.YthjbkgpjcfdnoaaDoorW.PrintLast Go.Proofs.YthjbkgpjcfdnoaaDoorW.PrintMore Go.Proofs.YthjbkgpjcfdnoaaDoor.PTxt
attribute [local go_sem] max2_int min2_int max_two min_two max_three min_three max_four min_four

theorem chars_of {s : ByteArray} (hv : validD s.data.toList = true) : ∃ cs, (∀ c ∈ cs, VR c) ∧ s.data.toList = us cs ∧ cs.length ≤ s.size := by
  obtain ⟨cs, h1, h2⟩ := us_of_valid s.data.toList.length s.data.toList (Nat.le_refl _) hv
  have h3 := size_us h2
  have h4 := us_len cs
  exact ⟨cs, h1, h2, by omega⟩
set_option maxHeartbeats 4000000 in
set_option maxRecDepth 100000 in
theorem textBack_walk (s : ByteArray) (w : World) (hs : s.size ≤ 1048576) (hT : Tabs w) :
    Calls Tryd.prog 3 #[.string s] w fun e w' => e = .returned (.bool true) ∧ Below w.heap.size w w' := by
  have HT := Aside0.mk hT
  have HB := Aside0.mk (Below.refl w.heap.size w)
  have HS := Aside0.mk hs
  clear hT
  by_cases hv : validD s.data.toList = true
  · obtain ⟨cs, hcs, he, hl⟩ := chars_of hv
    have hml := muts_len cs
    have hd := decOut_muts hcs
    rw [str_us he] at hd
    have HV := Aside0.mk hv
    have HX := Aside0.mk hcs
    have HE := Aside0.mk he
    have HD := Aside0.mk hd
    have HL := Aside0.mk (show cs.length ≤ 1048576 by omega)
    have HM := Aside0.mk (show (muts cs).length ≤ 35184372088831 by omega)
    clear hv hcs he hd hl hml hs
    go_enter Tryd.func3, Tryd.ntmps3
    go_wp2_with fail
    refine (works_calls _ HT.out).mono ?_
    rintro e w1 ⟨rfl, hb⟩
    have n0_ := Aside0.mk (below_step HB.out hb); clear HB hb; have HB := n0_; clear n0_
    go_wp2_with fail
    refine (enc_good cs s _ HX.out HE.out (by have := HL.out; omega) (HT.out.below HB.out)).mono ?_
    rintro e w2 ⟨A, c, rfl, hl, hC, ho, hb⟩
    have n0_ := Aside0.mk (below_step HB.out hb); clear HB hb ho; have HB := n0_; clear n0_
    have HC := Aside0.mk hC
    have HLC := Aside0.mk hl
    clear hC hl
    go_wp2_with fail
    refine (decode_eq HD.out (muts_bytes HX.out) HC.out rfl HLC.out HM.out).mono ?_
    rintro e w3 ⟨rfl, hb⟩
    have n0_ := Aside0.mk (below_step HB.out hb); clear HB hb; have HB := n0_; clear n0_
    go_wp2_with fail
    refine (valid_calls s _ (by have := HS.out; omega) (HT.out.below HB.out)).mono ?_
    rw [HV.out]
    rintro e w4 ⟨rfl, hb⟩
    have n0_ := Aside0.mk (below_step HB.out hb); clear HB hb; have HB := n0_; clear n0_
    go_wp2
    go_ret
    exact ⟨rfl, HB.out⟩
  · have HV := Aside0.mk (bnot hv)
    clear hv hs
    go_enter Tryd.func3, Tryd.ntmps3
    go_wp2_with fail
    refine (works_calls _ HT.out).mono ?_
    rintro e w1 ⟨rfl, hb⟩
    have n0_ := Aside0.mk (below_step HB.out hb); clear HB hb; have HB := n0_; clear n0_
    go_wp2_with fail
    refine (encode_bad s _ (by have := HS.out; omega) (HT.out.below HB.out) HV.out).mono ?_
    rintro e w2 ⟨rfl, hb⟩
    have n0_ := Aside0.mk (below_step HB.out hb); clear HB hb; have HB := n0_; clear n0_
    go_wp2_with fail
    refine (valid_calls s _ (by have := HS.out; omega) (HT.out.below HB.out)).mono ?_
    rw [HV.out]
    rintro e w4 ⟨rfl, hb⟩
    have n0_ := Aside0.mk (below_step HB.out hb); clear HB hb; have HB := n0_; clear n0_
    go_wp2
    go_ret
    exact ⟨rfl, HB.out⟩
theorem bytes_wf {l : List Int} (h : ∀ x ∈ l, (Lit.int .u8 x).wf = true) : Bytes l := fun x hx => bounds_u8 (h x hx)
set_option maxHeartbeats 4000000 in
set_option maxRecDepth 100000 in
theorem textAgain_walk0 (l : List Int) (A : Option Addr) (c : Nat) (w : World) (hby : Bytes l) (hr : Kd.C (Kd.int .u8) w A l.length l) (hc : l.length ≤ c) (hm : l.length ≤ 1048576) (hT : Tabs w) :
    Calls Tryd.prog 4 #[.slice A l.length c] w fun e w' => e = .returned (.bool true) ∧ Below w.heap.size w w' := by
  have HT := Aside0.mk hT
  have HB := Aside0.mk (Below.refl w.heap.size w)
  have HR := Aside0.mk hr
  have HY := Aside0.mk hby
  have HLC := Aside0.mk hc
  have HM := Aside0.mk (show l.length ≤ 35184372088831 by omega)
  obtain ⟨h1, h2, h3⟩ := dec_inv l hby
  clear hT hr hby hc
  by_cases hd : (dec l).2 = []
  · have hD : decOut l = (runesBytes (dec l).1, 0, 0) := by unfold decOut; rw [if_pos hd]
    rw [hd, List.append_nil] at h1
    generalize (dec l).1 = cs at *
    have hul := us_len cs
    have hml := muts_len cs
    have hle := congrArg List.length h1
    have HD := Aside0.mk hD
    have HX := Aside0.mk h2
    have HL := Aside0.mk (show cs.length ≤ 17592186044416 by omega)
    have HQ := Aside0.mk (decide_eq_true h1)
    have HV := Aside0.mk (show validD (runesBytes cs).data.toList = true by rw [runesBytes_us]; exact valid_us cs h2)
    have HSz := Aside0.mk (show (runesBytes cs).size ≤ 9223372036854775807 by rw [size_us (runesBytes_us cs)]; omega)
    clear hD h1 h2 h3 hd hul hml hle hm
    go_enter Tryd.func4, Tryd.ntmps4
    go_wp2_with fail
    refine (works_calls _ HT.out).mono ?_
    rintro e w1 ⟨rfl, hb⟩
    have n0_ := Aside0.mk (below_step HB.out hb); clear HB hb; have HB := n0_; clear n0_
    go_wp2_with fail
    refine (decode_eq HD.out HY.out (Kd.C_below HR.out HB.out) rfl HLC.out HM.out).mono ?_
    rintro e w2 ⟨rfl, hb⟩
    have n0_ := Aside0.mk (below_step HB.out hb); clear HB hb; have HB := n0_; clear n0_
    go_wp2_with fail
    refine (enc_good cs (runesBytes cs) _ HX.out (runesBytes_us cs) HL.out (HT.out.below HB.out)).mono ?_
    rintro e w3 ⟨A1, c1, rfl, hl, hC, ho, hb⟩
    have n0_ := Aside0.mk (below_step HB.out hb); clear HB hb ho; have HB := n0_; clear n0_
    have HC := Aside0.mk hC
    have HL1 := Aside0.mk hl
    clear hC hl
    go_wp2_with fail
    refine (valid_calls (runesBytes cs) _ HSz.out (HT.out.below HB.out)).mono ?_
    rw [HV.out]
    rintro e w4 ⟨rfl, hb⟩
    have n0_ := Aside0.mk (below_step HB.out hb); clear HB; have HB := n0_; clear n0_
    have n0_ := Aside0.mk (Kd.C_below HC.out hb); clear HC hb; have HC := n0_; clear n0_
    go_wp2_with fail
    refine (eq_calls true (Kd.C_below HR.out HB.out) rfl HLC.out HC.out rfl HL1.out (by have := HM.out; omega) HQ.out).mono ?_
    rintro e w5 ⟨rfl, hb⟩
    have n0_ := Aside0.mk (below_step HB.out hb); clear HB hb; have HB := n0_; clear n0_
    go_wp2
    go_ret
    exact ⟨rfl, HB.out⟩
  · have hD : decOut l = (⟨#[]⟩, (l.length : Int) - ((dec l).2.length : Int), 20) := by unfold decOut; rw [if_neg hd]
    have hle := congrArg List.length h1
    rw [List.length_append] at hle
    have hp : 0 < (dec l).2.length := List.length_pos_iff.2 hd
    obtain ⟨a, ha⟩ : ∃ a : Nat, (l.length : Int) - ((dec l).2.length : Int) = (a : Int) := ⟨l.length - (dec l).2.length, by omega⟩
    have hal : a < l.length := by omega
    rw [ha] at hD
    have HD := Aside0.mk hD
    clear hD h1 h2 h3 hd hle hp ha hm
    have d1 : decide (a < l.length) = true := decide_eq_true (by omega)
    have d2 : decide (0 ≤ (a : Int)) = true := decide_eq_true (by omega)
    clear hal
    go_enter Tryd.func4, Tryd.ntmps4
    go_wp2_with fail
    refine (works_calls _ HT.out).mono ?_
    rintro e w1 ⟨rfl, hb⟩
    have n0_ := Aside0.mk (below_step HB.out hb); clear HB hb; have HB := n0_; clear n0_
    go_wp2_with fail
    refine (decode_eq HD.out HY.out (Kd.C_below HR.out HB.out) rfl HLC.out HM.out).mono ?_
    rintro e w2 ⟨rfl, hb⟩
    have n0_ := Aside0.mk (below_step HB.out hb); clear HB hb; have HB := n0_; clear n0_
    go_wp2
    go_ret
    exact ⟨rfl, HB.out⟩
theorem textAgain_walk (a0 : Option Addr) (len0 cap0 : Nat) (z0 : List Int) (w : World) (w0 : (a0 = none ∧ len0 = 0 ∧ cap0 = 0 ∧ z0 = []) ∨ ∃ x, a0 = some x ∧ len0 ≤ cap0 ∧ cap0 ≤ maxLen ∧ z0.length = cap0 ∧ (∀ i, i < z0.length → w.cell? (x.add i) = some (.int .u8 (z0.getD i 0))) ∧ ∀ n ∈ z0, (Lit.int .u8 n).wf = true) (y0 : len0 ≤ 1048576) (hT : Tabs w) :
    Calls Tryd.prog 4 #[.slice a0 len0 cap0] w fun e w' => e = .returned (.bool true) ∧ Below w.heap.size w w' := by
  obtain ⟨l0, rfl, hr0, hm0, hw0, hc0⟩ := ReadsInt.ofRowC w0
  exact textAgain_walk0 l0 a0 cap0 w (bytes_wf hw0) (Kd.C_of_reads (d := (0 : Int)) (h1 := fun _ => rfl) hr0) hc0 y0 hT
end Go.Proofs.YthjbkgpjcfdnoaaDoor.Ext

/- The laws TextPlaces, TextJoins and TextPlain, walked. -/
import Derived.Test.YthjbkgpjcfdnoaaDoorTextLaws1
set_option linter.unusedVariables false
set_option linter.unusedSimpArgs false
namespace Go.Proofs.YthjbkgpjcfdnoaaDoor.Ext
open Go.RowKit Go.Lib Go.Proofs.YthjbkgpjcfdnoaaDoorW.PrintWords Go.Proofs.YthjbkgpjcfdnoaaDoorW.PrintLast Go.Proofs.YthjbkgpjcfdnoaaDoorW.PrintMore Go.Proofs.YthjbkgpjcfdnoaaDoor.PTxt
attribute [local go_sem] max2_int min2_int max_two min_two max_three min_three max_four min_four

theorem decOut_stuck {cs r : List Int} (hcs : ∀ c ∈ cs, VR c) (hr : (takeL r).2 = 0) (hne : r ≠ []) : decOut (muts cs ++ r) = (⟨#[]⟩, ((muts cs).length : Int), 20) := by
  unfold decOut
  rw [dec_eq cs r hcs hr, if_neg hne, List.length_append]
  have : (((muts cs).length + r.length : Nat) : Int) - (r.length : Int) = ((muts cs).length : Int) := by omega
  rw [this]
set_option maxHeartbeats 8000000 in
set_option maxRecDepth 100000 in
theorem textPlaces_walk0 (l m : List Int) (A A' : Option Addr) (c c' : Nat) (w : World) (hby : Bytes l) (hr : Kd.C (Kd.int .u8) w A l.length l) (hc : l.length ≤ c) (hm : l.length ≤ 1048576)
    (hby' : Bytes m) (hr' : Kd.C (Kd.int .u8) w A' m.length m) (hc' : m.length ≤ c') (hm' : m.length ≤ 1048576) (hT : Tabs w) :
    Calls Tryd.prog 6 #[.slice A l.length c, .slice A' m.length c'] w fun e w' => e = .returned (.bool true) ∧ Below w.heap.size w w' := by
  have HT := Aside0.mk hT
  have HB := Aside0.mk (Below.refl w.heap.size w)
  have HR := Aside0.mk hr
  have HR' := Aside0.mk hr'
  have HY := Aside0.mk hby
  have HY' := Aside0.mk hby'
  have HLC := Aside0.mk hc
  have HLC' := Aside0.mk hc'
  have HM := Aside0.mk hm
  have HM' := Aside0.mk hm'
  obtain ⟨h1, h2, h3⟩ := dec_inv l hby
  clear hT hr hby hr' hby' hc' hm'
  by_cases hd : (dec l).2 = []
  · have hD : decOut l = (runesBytes (dec l).1, 0, 0) := by unfold decOut; rw [if_pos hd]
    have HD := Aside0.mk hD
    clear hD h1 h2 h3 hd hm hc
    go_enter Tryd.func6, Tryd.ntmps6
    go_wp2_with fail
    refine (works_calls _ HT.out).mono ?_
    rintro e w1 ⟨rfl, hb⟩
    have n0_ := Aside0.mk (below_step HB.out hb); clear HB hb; have HB := n0_; clear n0_
    go_wp2_with fail
    refine (decode_eq HD.out HY.out (Kd.C_below HR.out HB.out) rfl HLC.out (by have := HM.out; omega)).mono ?_
    rintro e w2 ⟨rfl, hb⟩
    have n0_ := Aside0.mk (below_step HB.out hb); clear HB hb; have HB := n0_; clear n0_
    go_wp2
    go_ret
    exact ⟨rfl, HB.out⟩
  · generalize (dec l).1 = cs at *
    generalize (dec l).2 = r at *
    have hD := decOut_stuck h2 h3 hd
    rw [← h1] at hD
    have hlen : l.length = (muts cs).length + r.length := by rw [h1, List.length_append]
    have htk : l.take (muts cs).length = muts cs := by rw [h1, List.take_append_of_le_length (Nat.le_refl _), List.take_of_length_le (Nat.le_refl _)]
    have hC1 : ∀ w1, Kd.C (Kd.int .u8) w1 A l.length l → Kd.C (Kd.int .u8) w1 A (muts cs).length (muts cs) := fun w1 h => by
      have := Kd.C_take h (m := (muts cs).length) (by omega)
      rwa [htk] at this
    have hcut := slice_to l A c (muts cs).length (by omega) hc
    obtain ⟨z, hz⟩ : ∃ z, l ++ m = z := ⟨_, rfl⟩
    have HZ := Aside0.mk hz
    have HD := Aside0.mk hD
    have HD2 := Aside0.mk (decOut_muts h2)
    have HC1 := Aside0.mk hC1
    have HX := Aside0.mk h2
    have HN := Aside0.mk hlen
    have h6 : r.length < 6 ∨ decOut z = (⟨#[]⟩, ((muts cs).length : Int), 20) := by
      by_cases h : r.length < 6
      · exact .inl h
      · right
        rw [← hz, h1, List.append_assoc]
        exact decOut_stuck h2 (by rw [takeL_far r m (by omega)]; exact h3) (by simp [hd])
    have HZY := Aside0.mk (show Bytes z from hz ▸ HY.out.append HY'.out)
    have HZL := Aside0.mk (show z.length ≤ 35184372088831 by rw [← hz, List.length_append]; have := HM'.out; omega)
    clear hD h1 h2 h3 hd htk hC1 hz
    have b1 : ((muts cs).length : Int) ≤ (l.length : Int) := by omega
    have b2 : (l.length : Int) ≤ 1048576 := by omega
    by_cases hs : r.length < 6
    · have d1 : decide ((l.length : Int) - ((muts cs).length : Int) < 6) = true := decide_eq_true (by omega)
      clear h6 hs hlen hm hc
      go_enter Tryd.func6, Tryd.ntmps6
      go_wp2_with fail
      refine (works_calls _ HT.out).mono ?_
      rintro e w1 ⟨rfl, hb⟩
      have n0_ := Aside0.mk (below_step HB.out hb); clear HB hb; have HB := n0_; clear n0_
      go_wp2_with fail
      refine (decode_eq HD.out HY.out (Kd.C_below HR.out HB.out) rfl HLC.out (by have := HM.out; omega)).mono ?_
      rintro e w2 ⟨rfl, hb⟩
      have n0_ := Aside0.mk (below_step HB.out hb); clear HB hb; have HB := n0_; clear n0_
      go_wp2_with fail
      refine (decode_eq HD2.out (muts_bytes HX.out) (HC1.out _ (Kd.C_below HR.out HB.out)) rfl (by have := HLC.out; have := HN.out; omega) (by have := HM.out; have := HN.out; omega)).mono ?_
      rintro e w3 ⟨rfl, hb⟩
      have n0_ := Aside0.mk (below_step HB.out hb); clear HB hb; have HB := n0_; clear n0_
      go_wp2
      go_ret
      exact ⟨rfl, HB.out⟩
    · have d1 : decide ((l.length : Int) - ((muts cs).length : Int) < 6) = false := decide_eq_false (by omega)
      have HD3 := Aside0.mk (h6.resolve_left hs)
      have d2 : (((muts cs).length : Int) == ((muts cs).length : Int)) = true := beq_self_eq_true _
      clear h6 hs hlen hm hc
      go_enter Tryd.func6, Tryd.ntmps6
      go_wp2_with fail
      refine (works_calls _ HT.out).mono ?_
      rintro e w1 ⟨rfl, hb⟩
      have n0_ := Aside0.mk (below_step HB.out hb); clear HB hb; have HB := n0_; clear n0_
      go_wp2_with fail
      refine (decode_eq HD.out HY.out (Kd.C_below HR.out HB.out) rfl HLC.out (by have := HM.out; omega)).mono ?_
      rintro e w2 ⟨rfl, hb⟩
      have n0_ := Aside0.mk (below_step HB.out hb); clear HB hb; have HB := n0_; clear n0_
      go_wp2_with fail
      refine (decode_eq HD2.out (muts_bytes HX.out) (HC1.out _ (Kd.C_below HR.out HB.out)) rfl (by have := HLC.out; have := HN.out; omega) (by have := HM.out; have := HN.out; omega)).mono ?_
      rintro e w3 ⟨rfl, hb⟩
      have n0_ := Aside0.mk (below_step HB.out hb); clear HB hb; have HB := n0_; clear n0_
      clear hcut
      go_wp2_with fail
      refine (copy_calls (Kd.C_below HR.out HB.out) rfl HLC.out (by have := HM.out; omega)).mono ?_
      rintro e w4 ⟨v, rfl, ho, hb⟩
      have HO := Aside0.mk (Kd.R_lower ho (below_size HB.out))
      have n0_ := Aside0.mk (below_step HB.out hb); clear HB hb ho; have HB := n0_; clear n0_
      have HC4 := Aside0.mk (Kd.C_below HR'.out HB.out)
      go_wp2_with (at_builtin; refine Kd.R_append_rows (Kd.int .u8) (w0 := w) w.heap.size rfl _ _ 23 5 (.int .u8 0) 1 rfl Tryd.underlying23 infoB rfl (by decide) (by omega) v l m A' m.length c' (fun _ => True) (fun _ => False) rfl rfl HO.out HC4.out (fun _ _ h => h) (fun _ h => h.elim) (fun _ _ => trivial) HB.out (below_size HB.out) (by have := HM.out; have := HM'.out; omega) ?_; intro v1 w5 ho hb hg hat; rw [HZ.out] at ho; have HO1 := Aside0.mk ho; have n0_ := Aside0.mk hb; clear HB HC4 HO; have HB := n0_; clear n0_ ho hb hg hat; obtain ⟨A5, c5, rfl, hl5, hC5⟩ := Kd.R_reads HO1.out; have HL5 := Aside0.mk hl5; have HC5 := Aside0.mk hC5; clear hl5 hC5 HO1)
      refine (decode_eq HD3.out HZY.out HC5.out rfl HL5.out HZL.out).mono ?_
      rintro e w6 ⟨rfl, hb⟩
      have n0_ := Aside0.mk (below_step HB.out hb); clear HB hb; have HB := n0_; clear n0_
      go_wp2
      go_ret
      exact ⟨rfl, HB.out⟩
theorem textPlaces_walk (a0 : Option Addr) (len0 cap0 : Nat) (z0 : List Int) (a1 : Option Addr) (len1 cap1 : Nat) (z1 : List Int) (w : World)
    (w0 : (a0 = none ∧ len0 = 0 ∧ cap0 = 0 ∧ z0 = []) ∨ ∃ x, a0 = some x ∧ len0 ≤ cap0 ∧ cap0 ≤ maxLen ∧ z0.length = cap0 ∧ (∀ i, i < z0.length → w.cell? (x.add i) = some (.int .u8 (z0.getD i 0))) ∧ ∀ n ∈ z0, (Lit.int .u8 n).wf = true) (y0 : len0 ≤ 1048576)
    (w1 : (a1 = none ∧ len1 = 0 ∧ cap1 = 0 ∧ z1 = []) ∨ ∃ x, a1 = some x ∧ len1 ≤ cap1 ∧ cap1 ≤ maxLen ∧ z1.length = cap1 ∧ (∀ i, i < z1.length → w.cell? (x.add i) = some (.int .u8 (z1.getD i 0))) ∧ ∀ n ∈ z1, (Lit.int .u8 n).wf = true) (y1 : len1 ≤ 1048576) (hT : Tabs w) :
    Calls Tryd.prog 6 #[.slice a0 len0 cap0, .slice a1 len1 cap1] w fun e w' => e = .returned (.bool true) ∧ Below w.heap.size w w' := by
  obtain ⟨l0, rfl, hr0, hm0, hw0, hc0⟩ := ReadsInt.ofRowC w0
  obtain ⟨l1, rfl, hr1, hm1, hw1, hc1⟩ := ReadsInt.ofRowC w1
  exact textPlaces_walk0 l0 l1 a0 a1 cap0 cap1 w (bytes_wf hw0) (Kd.C_of_reads (d := (0 : Int)) (h1 := fun _ => rfl) hr0) hc0 y0 (bytes_wf hw1) (Kd.C_of_reads (d := (0 : Int)) (h1 := fun _ => rfl) hr1) hc1 y1 hT
end Go.Proofs.YthjbkgpjcfdnoaaDoor.Ext

/- The statements' own helpers 'is' and 'fails', walked. -/
import Derived.Test.YthjbkgpjcfdnoaaDoorTextLen
set_option linter.unusedVariables false
set_option linter.unusedSimpArgs false
namespace Go.Proofs.YthjbkgpjcfdnoaaDoor.Ext
open Go.RowKit Go.Lib Go.Proofs.YthjbkgpjcfdnoaaDoorW.PrintWords Go.Proofs.YthjbkgpjcfdnoaaDoorW.PrintLast Go.Proofs.YthjbkgpjcfdnoaaDoorW.PrintMore Go.Proofs.YthjbkgpjcfdnoaaDoor.PTxt
attribute [local go_sem] max2_int min2_int max_two min_two max_three min_three max_four min_four

set_option maxHeartbeats 4000000 in
set_option maxRecDepth 100000 in
theorem is_calls (cs : List Int) (s : ByteArray) (l : List Int) (A : Option Addr) (c n : Nat) (w : World) (hcs : ∀ c ∈ cs, VR c) (he : s.data.toList = us cs) (hm : cs.length ≤ 1048576) (hT : Tabs w) (hl : muts cs = l) (hr : Kd.C (Kd.int .u8) w A l.length l) (hn : l.length = n) (hc : n ≤ c) :
    Calls Tryd.prog 18 #[.string s, .slice A n c] w fun e w' => e = .returned (.bool true) ∧ Below w.heap.size w w' := by
  have hml := muts_len cs
  have hd := decOut_muts hcs
  rw [str_us he] at hd
  subst hl
  have HE := Aside0.mk (enc_good cs s w hcs he (by omega) hT)
  have HD := Aside0.mk (fun (w1 : World) (hb : Below w.heap.size w w1) => decode_eq (c := c) hd (muts_bytes hcs) (Kd.C_below hr hb) hn hc (by omega))
  have HL := Aside0.mk (fun (w1 : World) (hb : Below w.heap.size w w1) => len_good cs s w1 hcs he (by omega) (hT.below hb))
  have HR := Aside0.mk hr
  have HN := Aside0.mk hn
  have HC := Aside0.mk hc
  have HM := Aside0.mk (show n ≤ 140737488355300 by omega)
  have hnn : (((muts cs).length : Int) == (n : Int)) = true := by rw [hn]; exact beq_self_eq_true _
  clear hcs he hm hT hr hd hml hc hn
  go_enter Tryd.func18, Tryd.ntmps18
  go_wp2_with fail
  refine HE.out.mono ?_
  rintro e w1 ⟨A1, c1, rfl, hl, hC, ho, hb⟩
  have HB := Aside0.mk hb
  have HC1 := Aside0.mk hC
  have HL1 := Aside0.mk hl
  clear hl hC ho hb
  go_wp2_with fail
  refine (HD.out _ HB.out).mono ?_
  rintro e w2 ⟨rfl, hb⟩
  have HB2 := Aside0.mk (below_step HB.out hb)
  have HC2 := Aside0.mk (Kd.C_below HC1.out hb)
  clear hb
  go_wp2_with fail
  refine (HL.out _ HB2.out).mono ?_
  rintro e w3 ⟨rfl, hb⟩
  have HB3 := Aside0.mk (below_step HB2.out hb)
  have HC3 := Aside0.mk (Kd.C_below HC2.out hb)
  clear hb
  go_wp2_with fail
  refine (eq_calls true HC3.out rfl HL1.out (Kd.C_below HR.out HB3.out) HN.out HC.out (by have := HM.out; have := HN.out; omega) (decide_eq_true rfl)).mono ?_
  rintro e w4 ⟨rfl, hb⟩
  have HB4 := Aside0.mk (below_step HB3.out hb)
  clear hb
  go_wp2
  go_ret
  exact ⟨rfl, HB4.out⟩
/-- no text from a place on -/
def failsB (want : Int) (l : List Int) : Bool := !(dec l).2.isEmpty && decide ((l.length : Int) - ((dec l).2.length : Int) = want)
theorem failsB_out {want : Int} {l : List Int} (h : failsB want l = true) : decOut l = (⟨#[]⟩, want, 20) := by
  unfold failsB at h
  rw [Bool.and_eq_true, decide_eq_true_eq] at h
  obtain ⟨h1, h2⟩ := h
  unfold decOut
  rw [if_neg (by intro e; rw [e] at h1; simp at h1), h2]
set_option maxHeartbeats 4000000 in
set_option maxRecDepth 100000 in
theorem fails_calls (want : Int) (l : List Int) (A : Option Addr) (c n : Nat) (w : World) (hd : failsB want l = true) (hby : Bytes l) (hr : Kd.C (Kd.int .u8) w A l.length l) (hn : l.length = n) (hc : n ≤ c) (hm : n ≤ 1048576) :
    Calls Tryd.prog 19 #[.int .i64 want, .slice A n c] w fun e w' => e = .returned (.bool true) ∧ Below w.heap.size w w' := by
  have HD := Aside0.mk (decode_eq (c := c) (failsB_out hd) hby hr hn hc (by omega))
  have hw : (want == want) = true := beq_self_eq_true _
  clear hd hby hr hn hc hm
  go_enter Tryd.func19, Tryd.ntmps19
  go_wp2_with fail
  refine HD.out.mono ?_
  rintro e w1 ⟨rfl, hb⟩
  have HB := Aside0.mk hb
  clear hb
  go_wp2
  go_ret
  exact ⟨rfl, HB.out⟩
end Go.Proofs.YthjbkgpjcfdnoaaDoor.Ext

/- The law TextWrites, walked. -/
import Derived.Test.YthjbkgpjcfdnoaaDoorTextLaws4
set_option linter.unusedVariables false
set_option linter.unusedSimpArgs false
namespace Go.Proofs.YthjbkgpjcfdnoaaDoor.Ext
open Go.RowKit Go.Lib Go.Proofs.YthjbkgpjcfdnoaaDoorW.PrintWords Go.Proofs.YthjbkgpjcfdnoaaDoorW.PrintLast Go.Proofs.YthjbkgpjcfdnoaaDoorW.PrintMore Go.Proofs.YthjbkgpjcfdnoaaDoor.PTxt
attribute [local go_sem] max2_int min2_int max_two min_two max_three min_three max_four min_four

set_option maxHeartbeats 8000000 in
set_option maxRecDepth 100000 in
theorem textWrites_walk (s : ByteArray) (w : World) (hs : s.size ≤ 1048576) (hT : Tabs w) :
    Calls Tryd.prog 10 #[.string s] w fun e w' => e = .returned (.bool true) ∧ Below w.heap.size w w' := by
  have HT := Aside0.mk hT
  have HB := Aside0.mk (Below.refl w.heap.size w)
  have HS := Aside0.mk hs
  clear hT
  by_cases hv : validD s.data.toList = true
  · obtain ⟨cs, hcs, he, hl⟩ := chars_of hv
    have hml := muts_len cs
    have HX := Aside0.mk hcs
    have HE := Aside0.mk he
    have HL := Aside0.mk (show cs.length ≤ 1048576 by omega)
    have hlen : ((muts cs).length : Int) ≤ 6291456 := by omega
    have HML := Aside0.mk (show (muts cs).length ≤ 6291456 by omega)
    have q1 : (((muts cs).length : Int) != ((muts cs).length : Int)) = false := by simp
    clear hv hcs he hl hml hs
    go_enter Tryd.func10, Tryd.ntmps10
    go_wp2_with fail
    refine (enc_good cs s _ HX.out HE.out (by have := HL.out; omega) HT.out).mono ?_
    rintro e w1 ⟨A1, c1, rfl, hl, hC, ho, hb⟩
    have n0_ := Aside0.mk hb; clear HB hb; have HB := n0_; clear n0_
    have HO := Aside0.mk (Kd.own_of_R ho)
    have HENC := Aside0.mk (fun (w1 : World) (hb : Below w.heap.size w w1) => enc_good cs s w1 HX.out HE.out (by have := HL.out; omega) (HT.out.below hb))
    have HC := Aside0.mk hC
    have HL1 := Aside0.mk hl
    have HBs := Aside0.mk (Below.refl w1.heap.size w1)
    clear hl hC ho
    go_wp2_with fail
    refine (renc_good cs s _ HX.out HE.out (by have := HL.out; omega) (HT.out.below HB.out)).mono ?_
    rintro e w2 ⟨A2, c2, rfl, hl, hC, ho, hb⟩
    have n0_ := Aside0.mk (below_step HBs.out hb); clear HBs hb; have HBs := n0_; clear n0_
    have HY := Aside0.mk (Kd.R_mono (ok' := fun k => w1.heap.size ≤ k) (Kd.R_bound ho) (fun k hk => hk.2.1))
    have HL2 := Aside0.mk hl
    clear hl hC ho
    go_wp2_with fail
    refine (len_good cs s _ HX.out HE.out (by have := HL.out; omega) (HT.out.below (below_step HB.out HBs.out))).mono ?_
    rintro e w3 ⟨rfl, hb⟩
    have n0_ := Aside0.mk (below_step HBs.out hb); clear HBs; have HBs := n0_; clear n0_
    have n0_ := Aside0.mk (Kd.R_below HY.out hb); clear HY hb; have HY := n0_; clear n0_
    go_wp2_with fail
    refine (rlen_good cs s _ HX.out HE.out (by have := HL.out; omega) (HT.out.below (below_step HB.out HBs.out))).mono ?_
    rintro e w4 ⟨rfl, hb⟩
    have n0_ := Aside0.mk (below_step HBs.out hb); clear HBs; have HBs := n0_; clear n0_
    have n0_ := Aside0.mk (Kd.R_below HY.out hb); clear HY hb; have HY := n0_; clear n0_
    go_wp2_with fail
    refine (eq_calls true (Kd.C_below HC.out HBs.out) rfl HL1.out (Kd.R_reads' HY.out).2.2 rfl HL2.out (by have := HML.out; omega) (decide_eq_true rfl)).mono ?_
    rintro e w5 ⟨rfl, hb⟩
    have n0_ := Aside0.mk (below_step HBs.out hb); clear HBs; have HBs := n0_; clear n0_
    have n0_ := Aside0.mk (Kd.R_below HY.out hb); clear HY hb; have HY := n0_; clear n0_
    have HO1_ := HO
    have HO4 := Aside0.mk (pw_own_below HO.out HBs.out)
    have HB4 := Aside0.mk (below_step HB.out HBs.out)
    have hsz := HB.out.size
    clear HO HC HB HBs
    rcases Nat.eq_zero_or_pos (muts cs).length with hz | hz
    · rw [hz] at HO4 HL1 q1 hlen
      have hY := HY.out
      clear HO4 HL1 HO1_
      have hz2 : muts cs = [] := List.eq_nil_of_length_eq_zero hz
      rw [hz]
      go_wp2
      refine wp_loop_rounds 1 ?_; rw [rounds_succ]
      go_wp2_with fail
      refine (enc_good cs s _ HX.out HE.out (by have := HL.out; omega) (HT.out.below HB4.out)).mono ?_
      rintro e w6 ⟨A3, c3, rfl, hl, hC, ho, hb⟩
      have HB6 := Aside0.mk (below_step HB4.out hb)
      have HY6 := Aside0.mk (Kd.R_below HY.out hb)
      have HC3 := Aside0.mk hC
      have HL3 := Aside0.mk hl
      clear hl hC ho hb HY HB4
      go_wp2_with fail
      refine (eq_calls true HC3.out (by first | (with_reducible rfl) | exact hz) (by have := HL3.out; omega) (Kd.R_reads' HY6.out).2.2 (by first | (with_reducible rfl) | exact hz) (by have := HL2.out; omega) (by have := HML.out; omega) (decide_eq_true rfl)).mono ?_
      rintro e w7 ⟨rfl, hb⟩
      have HB7 := Aside0.mk (below_step HB6.out hb); clear hb
      go_wp2_with fail
      refine (works_calls _ (HT.out.below HB7.out)).mono ?_
      rintro e w8 ⟨rfl, hb⟩
      have HB8 := Aside0.mk (below_step HB7.out hb); clear hb
      go_wp2
      go_ret
      exact ⟨rfl, HB8.out⟩
    · obtain ⟨g, cap, e1, hgb, hgl⟩ := HO1_.out.form (by omega)
      cases e1
      have hg1 : g < w1.heap.size := own_lt HO1_.out g rfl
      have HOW := Aside0.mk (show Own w5 w.heap.size g (muts cs).length c1 from ⟨muts cs, rfl, HO4.out⟩)
      have h1 := own_base HO4.out g rfl
      have HG := Aside0.mk (show w.heap.size ≤ g by omega)
      have HG1 := Aside0.mk hg1
      have hlp : ((muts cs).length : Int) ≤ 6291456 := hlen
      clear HO1_ HO4 h1 hgb hgl hsz hg1
      generalize muts cs = l at *
      go_wp2
      go_loopw [11] (fun i wr => ∃ k : Nat, i = .int .i64 (k : Int) ∧ k ≤ l.length ∧ Aside0 (Own wr w.heap.size g l.length c1) ∧ Aside0 (Below w.heap.size w wr) ∧ Aside0 (Kd.R (Kd.int .u8) 5 wr w1.heap.size (fun k => w1.heap.size ≤ k) (.slice A2 l.length c2) l)) (fun i _ => l.length - (RowKit.intOf i).toNat)
      case atStart => exact ⟨0, rfl, by omega, HOW, HB4, HY⟩
      case round =>
        obtain ⟨k, rfl, hk, HOr, HBr, HYr⟩ := hrel
        clear HOW HB4 HY
        by_cases hlt : k < l.length
        · have hltz : decide ((k : Int) < (l.length : Int)) = true := decide_eq_true (by omega)
          have hlt2 : (k : Int) < (l.length : Int) := by omega
          obtain ⟨x, hcell, hfr⟩ := HOr.out.at_ k hlt
          have HO2 := Aside0.mk (HOr.out.set k 0)
          have HB2 := Aside0.mk (HBr.out.setCell (p := ⟨g, k, none⟩) HG.out (.int .u8 0))
          have HY2 := Aside0.mk (Kd.R_far HYr.out (p := ⟨g, k, none⟩) (fun q hq => by have := HG1.out; simp only; omega) (.int .u8 0))
          clear HOr HBr HYr
          go_wp2
          go_roundw
          case rel => exact ⟨k + 1, by go_num, by omega, HO2, HB2, HY2⟩
          case measure => simp [RowKit.intOf]; omega
        · have hltz : decide ((k : Int) < (l.length : Int)) = false := decide_eq_false (by omega)
          go_wp2_with fail
          refine (HENC.out _ HBr.out).mono ?_
          rintro e w6 ⟨A3, c3, rfl, hl, hC, ho, hb⟩
          have HB6 := Aside0.mk (below_step HBr.out hb)
          have HY6 := Aside0.mk (Kd.R_below HYr.out hb)
          have HC3 := Aside0.mk hC
          have HL3 := Aside0.mk hl
          clear hl hC ho hb
          go_wp2_with fail
          refine (eq_calls true HC3.out rfl HL3.out (Kd.R_reads' HY6.out).2.2 rfl HL2.out (by have := HML.out; omega) (decide_eq_true rfl)).mono ?_
          rintro e w7 ⟨rfl, hb⟩
          have HB7 := Aside0.mk (below_step HB6.out hb); clear hb
          go_wp2_with fail
          refine (works_calls _ (HT.out.below HB7.out)).mono ?_
          rintro e w8 ⟨rfl, hb⟩
          have HB8 := Aside0.mk (below_step HB7.out hb); clear hb
          go_wp2
          go_ret
          exact ⟨rfl, HB8.out⟩
  · have HV := Aside0.mk (bnot hv)
    have HS2 := Aside0.mk (show s.size ≤ 17592186044416 by omega)
    clear hv
    go_enter Tryd.func10, Tryd.ntmps10
    go_wp2_with fail
    refine (encode_bad s _ (by have := HS.out; omega) (HT.out.below HB.out) HV.out).mono ?_
    rintro e w1 ⟨rfl, hb⟩
    have n0_ := Aside0.mk (below_step HB.out hb); clear HB hb; have HB := n0_; clear n0_
    go_wp2_with fail
    refine (rencode_bad s _ HS2.out (HT.out.below HB.out) HV.out).mono ?_
    rintro e w2 ⟨rfl, hb⟩
    have n0_ := Aside0.mk (below_step HB.out hb); clear HB hb; have HB := n0_; clear n0_
    go_wp2_with fail
    refine (len_bad s _ (by have := HS.out; omega) (HT.out.below HB.out) HV.out).mono ?_
    rintro e w3 ⟨rfl, hb⟩
    have n0_ := Aside0.mk (below_step HB.out hb); clear HB hb; have HB := n0_; clear n0_
    go_wp2_with fail
    refine (rlen_bad s _ HS2.out (HT.out.below HB.out) HV.out).mono ?_
    rintro e w4 ⟨rfl, hb⟩
    have n0_ := Aside0.mk (below_step HB.out hb); clear HB hb; have HB := n0_; clear n0_
    go_wp2_with fail
    refine (eq_calls (l0 := []) (l1 := []) true (Kd.C_nil _ _) rfl (Nat.le_refl _) (Kd.C_nil _ _) rfl (Nat.le_refl _) (by decide) (decide_eq_true rfl)).mono ?_
    rintro e w5 ⟨rfl, hb⟩
    have n0_ := Aside0.mk (below_step HB.out hb); clear HB hb; have HB := n0_; clear n0_
    go_wp2
    refine wp_loop_rounds 1 ?_; rw [rounds_succ]
    go_wp2_with fail
    refine (encode_bad s _ (by have := HS.out; omega) (HT.out.below HB.out) HV.out).mono ?_
    rintro e w6 ⟨rfl, hb⟩
    have n0_ := Aside0.mk (below_step HB.out hb); clear HB hb; have HB := n0_; clear n0_
    go_wp2_with fail
    refine (eq_calls (l0 := []) (l1 := []) true (Kd.C_nil _ _) rfl (Nat.le_refl _) (Kd.C_nil _ _) rfl (Nat.le_refl _) (by decide) (decide_eq_true rfl)).mono ?_
    rintro e w7 ⟨rfl, hb⟩
    have n0_ := Aside0.mk (below_step HB.out hb); clear HB hb; have HB := n0_; clear n0_
    go_wp2_with fail
    refine (works_calls _ (HT.out.below HB.out)).mono ?_
    rintro e w8 ⟨rfl, hb⟩
    have n0_ := Aside0.mk (below_step HB.out hb); clear HB hb; have HB := n0_; clear n0_
    go_wp2
    go_ret
    exact ⟨rfl, HB.out⟩
end Go.Proofs.YthjbkgpjcfdnoaaDoor.Ext

/- The law PoolReads, walked. -/
import Derived.Test.YtkhigagkgpfpfaaDoorPoolRParse
set_option linter.unusedVariables false
set_option linter.unusedSimpArgs false
namespace Go.Proofs.YtkhigagkgpfpfaaDoor.Ext
open Go.RowKit Go.Lib Go.Proofs.YtkhigagkgpfpfaaDoorW.PrintWords Go.Proofs.YtkhigagkgpfpfaaDoorW.PrintLast Go.Proofs.YtkhigagkgpfpfaaDoorW.PrintMore Go.Proofs.YtkhigagkgpfpfaaDoor.PLeb
attribute [local go_sem] max2_int min2_int max_two min_two max_three min_three max_four min_four

theorem wf_bytes {l : List Int} (h : ∀ x ∈ l, (Lit.int .u8 x).wf = true) : Bytes l := fun x hx => bounds_u8 (h x hx)
/-- what Parse lists is no longer than the greatest pool -/
theorem parse_short (b : List Int) : (parseL b).1.length ≤ 4096 := by
  obtain ⟨x, y, z, hx⟩ : ∃ x y z, parseL b = (x, y, z) := ⟨_, _, _, rfl⟩
  rw [hx]
  by_cases hz : z = 0
  · unfold parseL at hx
    generalize takeU b = r at hx
    obtain ⟨n, b1, e1⟩ := r
    simp only [parseL1] at hx
    split at hx
    · split at hx
      · injection hx with h1 h2; rw [← h1]; exact Nat.zero_le _
      · generalize manyL n b1 = S at hx
        obtain ⟨p, q, s⟩ := S
        simp only [lastL] at hx
        split at hx
        · split at hx
          · rename_i hc
            injection hx with h1 h2
            rw [← h1]
            exact (checkL_ok hc).2.1
          · injection hx with h1 h2; rw [← h1]; exact Nat.zero_le _
        · injection hx with h1 h2; rw [← h1]; exact Nat.zero_le _
    · injection hx with h1 h2; rw [← h1]; exact Nat.zero_le _
  · have := parse_none (b := b) (e := z) (by rw [hx]) hz
    rw [hx] at this
    injection this with h1 h2
    rw [h1]; exact Nat.zero_le _
theorem parse_less {b : List Int} (hb : Bytes b) (hm : b.length ≤ 140737488355300) : (parseL b).2.1.length ≤ b.length := by
  by_cases h : (parseL b).2.2 = 0
  · exact (parse_back hb hm h).2.2.2.1
  · rw [parse_none rfl h]; exact Nat.zero_le _
set_option maxHeartbeats 16000000 in
set_option maxRecDepth 100000 in
theorem poolReads_walk0 (b0 : List Int) (a0 : Option Addr) (c0 : Nat) (w : World) (hby : Bytes b0) (hr0 : Kd.C (Kd.int .u8) w a0 b0.length b0) (hc0 : b0.length ≤ c0) (hm0 : b0.length ≤ 1048576) (hT : Tabs w) (hRd : Rds w) :
    Calls Tryd.prog 3 #[.slice a0 b0.length c0] w fun e w' => e = .returned (.bool true) ∧ Below w.heap.size w w' := by
  have HT := Aside0.mk hT
  have HRD := Aside0.mk hRd
  have HR := Aside0.mk hr0
  have HC := Aside0.mk hc0
  have HM := Aside0.mk hm0
  have HBY := Aside0.mk hby
  obtain ⟨l, r, e, hx⟩ : ∃ l r e, parseL b0 = (l, r, e) := ⟨_, _, _, rfl⟩
  have hsh := parse_short b0
  have hls := parse_less hby (by omega)
  rw [hx] at hsh hls
  have HX := Aside0.mk hx
  have HLS := Aside0.mk (show l.length ≤ 4000000000000 from Nat.le_trans hsh (by decide))
  have HRL := Aside0.mk (show r.length ≤ 1048576 from Nat.le_trans hls hm0)
  have HCP := Aside0.mk (copy_calls hr0 rfl hc0 (by omega))
  clear hT hRd hr0 hc0 hm0 hby hx hsh hls
  go_enter Tryd.func3, Tryd.ntmps3
  go_wp2_with fail
  refine HCP.out.mono ?_
  rintro y w1 ⟨v1, rfl, ho1, hb1⟩
  obtain ⟨inner, hown1⟩ := Kd.R_own ho1
  have HIL := Aside0.mk (show ∀ k, v1.ownBlock = some k → k < w1.heap.size from fun k hk => own_lt hown1 k hk)
  obtain ⟨Ai, ci, rfl, hli, hCi⟩ := Kd.R_reads ho1
  have HLI := Aside0.mk hli
  have HCI := Aside0.mk hCi
  have HB1 := Aside0.mk hb1
  clear HCP ho1 hown1 hli hCi hb1
  go_wp2_with fail
  refine (parse_calls w1 (HT.out.below HB1.out) (HRD.out.from HB1.out HRD.out.lt) HBY.out (by have := HM.out; omega) HCI.out rfl HLI.out).mono ?_
  rw [HX.out]
  rintro y w2 ⟨vl, vr, rfl, hol, hor, hb2⟩
  obtain ⟨A4, c4, rfl, hl4, hC4⟩ := Kd.R_reads hol
  have HL4 := Aside0.mk hl4
  have HC4 := Aside0.mk hC4
  have HCI2 := Aside0.mk (Kd.C_below HCI.out hb2)
  have HB2 := Aside0.mk (below_step HB1.out hb2)
  have HOR := Aside0.mk hor
  have hown := Kd.own_of_R hor
  clear hol hl4 hC4 hb2 hor
  rcases hown.2 with ⟨rfl, hr0⟩ | ⟨g, cap, cur, rfl, hg, hh, -⟩
  · have hre : r = [] := List.eq_nil_of_length_eq_zero hr0
    subst hre
    clear hr0 hown
    go_wp2_with fail
    refine (Rf.rparse_calls w2 (HT.out.below HB2.out) HBY.out (by have := HM.out; omega) (Kd.C_below HR.out HB2.out) rfl HC.out).mono ?_
    rw [HX.out]
    rintro y w3 ⟨vm, vs, rfl, hom, hos, hb3⟩
    obtain ⟨A5, c5, rfl, hl5, hC5⟩ := Kd.R_reads hom
    obtain ⟨A6, c6, rfl, hl6, hC6⟩ := Kd.R_reads hos
    have HL5 := Aside0.mk hl5
    have HC5 := Aside0.mk hC5
    have HL6 := Aside0.mk hl6
    have HC6 := Aside0.mk hC6
    have HC43 := Aside0.mk (Kd.C_below HC4.out hb3)
    have HCI3 := Aside0.mk (Kd.C_below HCI2.out hb3)
    have HOR3 := Aside0.mk (Kd.R_below HOR.out hb3)
    have HB3 := Aside0.mk (below_step HB2.out hb3)
    clear hom hos hl5 hl6 hC5 hC6 hb3 HC4 HCI HCI2 HOR HB1 HB2
    go_wp2_with fail
    refine (same_calls HC43.out rfl HL4.out HC5.out rfl HL5.out HLS.out).mono ?_
    rintro y w4 ⟨rfl, hb4⟩
    have HC64 := Aside0.mk (Kd.C_below HC6.out hb4)
    have HCI4 := Aside0.mk (Kd.C_below HCI3.out hb4)
    have HOR4 := Aside0.mk (Kd.R_below HOR3.out hb4)
    have HB4 := Aside0.mk (below_step HB3.out hb4)
    clear hb4 HC43 HC5 HC6 HCI3 HOR3 HB3
    have HRC := Aside0.mk (Kd.R_reads' HOR4.out)
    go_wp2_with fail
    refine (eq_calls true (c_nil _) rfl (Nat.le_refl _) HC64.out rfl HL6.out (by have := HRL.out; omega) (decide_eq_true rfl)).mono ?_
    rintro y w5 ⟨rfl, hb5⟩
    have HCI5 := Aside0.mk (Kd.C_below HCI4.out hb5)
    have HOR5 := Aside0.mk (Kd.R_below HOR4.out hb5)
    have HB5 := Aside0.mk (below_step HB4.out hb5)
    clear hb5 HC64 HCI4 HOR4 HB4 HRC
    go_wp2
    refine wp_loop_rounds 1 ?_; rw [rounds_succ]
    go_wp2_with fail
    refine (eq_calls true HCI5.out rfl HLI.out (Kd.C_below HR.out HB5.out) rfl HC.out (by have := HM.out; omega) (decide_eq_true rfl)).mono ?_
    rintro y w6 ⟨rfl, hb⟩
    have HB6 := Aside0.mk (below_step HB5.out hb)
    clear hb
    go_wp2_with fail
    refine (works_calls w6 (HT.out.below HB6.out) (HRD.out.from HB6.out HRD.out.lt)).mono ?_
    rintro y w7 ⟨rfl, hb⟩
    have HB7 := Aside0.mk (below_step HB6.out hb)
    clear hb
    go_wp2
    go_ret
    exact ⟨rfl, HB7.out⟩
  · have HG := Aside0.mk hg
    have HGW := Aside0.mk (show w.heap.size ≤ g from Nat.le_trans HB1.out.size hg)
    have HFAR := Aside0.mk (show ∀ ad, Ai = some ad → 0 < b0.length → ad.block ≠ g from fun ad hA hn he => by subst hA; have := HIL.out ad.block rfl; omega)
    clear hown hh hg
    go_wp2_with fail
    refine (Rf.rparse_calls w2 (HT.out.below HB2.out) HBY.out (by have := HM.out; omega) (Kd.C_below HR.out HB2.out) rfl HC.out).mono ?_
    rw [HX.out]
    rintro y w3 ⟨vm, vs, rfl, hom, hos, hb3⟩
    obtain ⟨A5, c5, rfl, hl5, hC5⟩ := Kd.R_reads hom
    obtain ⟨A6, c6, rfl, hl6, hC6⟩ := Kd.R_reads hos
    have HL5 := Aside0.mk hl5
    have HC5 := Aside0.mk hC5
    have HL6 := Aside0.mk hl6
    have HC6 := Aside0.mk hC6
    have HC43 := Aside0.mk (Kd.C_below HC4.out hb3)
    have HCI3 := Aside0.mk (Kd.C_below HCI2.out hb3)
    have HOR3 := Aside0.mk (Kd.R_below HOR.out hb3)
    have HB3 := Aside0.mk (below_step HB2.out hb3)
    clear hom hos hl5 hl6 hC5 hC6 hb3 HC4 HCI HCI2 HOR HB1 HB2
    go_wp2_with fail
    refine (same_calls HC43.out rfl HL4.out HC5.out rfl HL5.out HLS.out).mono ?_
    rintro y w4 ⟨rfl, hb4⟩
    have HC64 := Aside0.mk (Kd.C_below HC6.out hb4)
    have HCI4 := Aside0.mk (Kd.C_below HCI3.out hb4)
    have HOR4 := Aside0.mk (Kd.R_below HOR3.out hb4)
    have HB4 := Aside0.mk (below_step HB3.out hb4)
    clear hb4 HC43 HC5 HC6 HCI3 HOR3 HB3
    have HRC := Aside0.mk (Kd.R_reads' HOR4.out)
    go_wp2_with fail
    refine (eq_calls true HRC.out.2.2 rfl HRC.out.2.1 HC64.out rfl HL6.out (by have := HRL.out; omega) (decide_eq_true rfl)).mono ?_
    rintro y w5 ⟨rfl, hb5⟩
    have HCI5 := Aside0.mk (Kd.C_below HCI4.out hb5)
    have HOR5 := Aside0.mk (Kd.R_below HOR4.out hb5)
    have HB5 := Aside0.mk (below_step HB4.out hb5)
    clear hb5 HC64 HCI4 HOR4 HB4 HRC
    have HK5 := Aside0.mk (KeepBut.refl w5 g none)
    obtain ⟨rn, hrn⟩ : ∃ rn, r.length = rn := ⟨_, rfl⟩
    have HRN := Aside0.mk hrn
    rw [hrn] at HOR5 ⊢
    clear hrn
    go_wp2
    go_loopw [10] (fun i wr => ∃ (k : Nat) (zs : List Int), i = .int .i64 (k : Int) ∧ k ≤ rn ∧ Aside0 (zs.length = rn) ∧ Aside0 (Kd.R (Kd.int .u8) 5 wr w1.heap.size (fun _ => True) (.slice (some ⟨g, 0, none⟩) zs.length cap) zs) ∧ Aside0 (KeepBut w5 wr g none) ∧ Aside0 (Below w.heap.size w wr)) (fun i _ => rn - (RowKit.intOf i).toNat)
    case atStart => exact ⟨0, r, rfl, by omega, ⟨HRN.out⟩, ⟨HRN.out ▸ HOR5.out⟩, HK5, HB5⟩
    case round =>
      obtain ⟨k, zs, rfl, hk, HZ, HO, HK, HBr⟩ := hrel
      clear HK5 HB5 HOR5
      by_cases hlt : k < rn
      · have hltz : decide ((k : Int) < (rn : Int)) = true := decide_eq_true (by omega)
        have hlt2 : (k : Int) < (rn : Int) := by omega
        have hm1 : ((k : Int) + 1) ≤ 1048577 := by have := HRL.out; have := HRN.out; omega
        obtain ⟨hcell, hfr⟩ := Kd.R_cell (enc := Value.int .u8) (h1 := fun _ => rfl) (0 : Int) HO.out (k : Int) (by omega) (by rw [HZ.out]; omega)
        have hcell' : wr.cell? ⟨g, k, none⟩ = some (.int .u8 (rdOf 0 zs (k : Int))) := hcell
        have hfr' : wr.frozen? ⟨g, k, none⟩ = false := hfr
        obtain ⟨hput, -⟩ := Kd.R_put (enc := Value.int .u8) (h1 := fun _ => rfl) HO.out (k : Int) (0 : Int)
        have HO2 := Aside0.mk (show Kd.R (Kd.int .u8) 5 (wr.setCell ⟨g, k, none⟩ (.int .u8 0)) w1.heap.size (fun _ => True) (.slice (some ⟨g, 0, none⟩) (zs.set k 0).length cap) (zs.set k 0) from by rw [List.length_set]; exact hput)
        have HZ2 := Aside0.mk (show (zs.set k 0).length = rn by rw [List.length_set]; exact HZ.out)
        have HK2 := Aside0.mk (KeepBut.set_ HK.out k (.int .u8 0))
        have HB2 := Aside0.mk (HBr.out.setCell (p := ⟨g, k, none⟩) HGW.out (.int .u8 0))
        clear HO HK HBr hcell hfr hput
        go_wp2
        go_roundw
        case rel => exact ⟨k + 1, zs.set k 0, by go_num, by omega, HZ2, HO2, HK2, HB2⟩
        case measure => simp [RowKit.intOf]; omega
      · have hltz : decide ((k : Int) < (rn : Int)) = false := decide_eq_false (by omega)
        have HCr := Aside0.mk (Kd.C_keep 0 HCI5.out HK.out HFAR.out)
        go_wp2_with fail
        refine (eq_calls true HCr.out rfl HLI.out (Kd.C_below HR.out HBr.out) rfl HC.out (by have := HM.out; omega) (decide_eq_true rfl)).mono ?_
        rintro y w6 ⟨rfl, hb⟩
        have HB6 := Aside0.mk (below_step HBr.out hb)
        clear hb
        go_wp2_with fail
        refine (works_calls w6 (HT.out.below HB6.out) (HRD.out.from HB6.out HRD.out.lt)).mono ?_
        rintro y w7 ⟨rfl, hb⟩
        have HB7 := Aside0.mk (below_step HB6.out hb)
        clear hb
        go_wp2
        go_ret
        exact ⟨rfl, HB7.out⟩
theorem poolReads_walk (a0 : Option Addr) (len0 cap0 : Nat) (z0 : List Int) (w : World) (w0 : (a0 = none ∧ len0 = 0 ∧ cap0 = 0 ∧ z0 = []) ∨ ∃ x, a0 = some x ∧ len0 ≤ cap0 ∧ cap0 ≤ maxLen ∧ z0.length = cap0 ∧ (∀ i, i < z0.length → w.cell? (x.add i) = some (.int .u8 (z0.getD i 0))) ∧ ∀ n ∈ z0, (Lit.int .u8 n).wf = true) (y0 : len0 ≤ 1048576) (hT : Tabs w) (hRd : Rds w) :
    Calls Tryd.prog 3 #[.slice a0 len0 cap0] w fun e w' => e = .returned (.bool true) ∧ Below w.heap.size w w' := by
  obtain ⟨b0, rfl, hr0, hm0, hw0, hc0⟩ := ReadsInt.ofRowC w0
  exact poolReads_walk0 b0 a0 cap0 w (wf_bytes hw0) (Kd.C_of_reads (d := (0 : Int)) (h1 := fun _ => rfl) hr0) hc0 y0 hT hRd
end Go.Proofs.YtkhigagkgpfpfaaDoor.Ext

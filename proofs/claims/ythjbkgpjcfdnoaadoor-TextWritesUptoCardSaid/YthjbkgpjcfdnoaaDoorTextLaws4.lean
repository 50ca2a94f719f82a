/- The laws TextReads and TextWrites, walked. -/
import Derived.Test.YthjbkgpjcfdnoaaDoorTextLaws1
import Derived.Test.YthjbkgpjcfdnoaaDoorTextRefDec2
set_option linter.unusedVariables false
set_option linter.unusedSimpArgs false
namespace Go.Proofs.YthjbkgpjcfdnoaaDoor.Ext
open Go.RowKit Go.Lib Go.Proofs.YthjbkgpjcfdnoaaDoorW.PrintWords Go.Proofs.YthjbkgpjcfdnoaaDoorW.PrintLast Go.Proofs.YthjbkgpjcfdnoaaDoorW.PrintMore Go.Proofs.YthjbkgpjcfdnoaaDoor.PTxt
attribute [local go_sem] max2_int min2_int max_two min_two max_three min_three max_four min_four

/-- a row of bytes of one's own, whatever stands in it -/
def Own (w : World) (base g n c : Nat) : Prop := ∃ xs : List Int, xs.length = n ∧ w.ownsRow base 5 1 (.slice (some ⟨g, 0, none⟩) n c) n (nums .u8 xs)
theorem Own.at_ {w : World} {base g n c : Nat} (h : Own w base g n c) (i : Nat) (hi : i < n) : ∃ x : Int, w.cell? ⟨g, i, none⟩ = some (.int .u8 x) ∧ w.frozen? ⟨g, i, none⟩ = false := by
  obtain ⟨xs, hl, ho⟩ := h
  obtain ⟨h1, h2⟩ := own_at ho (i : Int) (by omega) (by omega)
  rw [Int.toNat_natCast] at h1 h2
  exact ⟨_, h1, h2⟩
theorem Own.set {w : World} {base g n c : Nat} (h : Own w base g n c) (i : Nat) (x : Int) : Own (w.setCell ⟨g, i, none⟩ (.int .u8 x)) base g n c := by
  obtain ⟨xs, hl, ho⟩ := h
  obtain ⟨h1, _⟩ := own_store ho (i : Int) x
  rw [Int.toNat_natCast] at h1
  exact ⟨xs.set i x, by rw [List.length_set, hl], h1⟩
set_option maxHeartbeats 8000000 in
set_option maxRecDepth 100000 in
theorem textReads_walk0 (l : List Int) (A : Option Addr) (c : Nat) (w : World) (hby : Bytes l) (hr : Kd.C (Kd.int .u8) w A l.length l) (hc : l.length ≤ c) (hm : l.length ≤ 1048576) (hT : Tabs w) :
    Calls Tryd.prog 9 #[.slice A l.length c] w fun e w' => e = .returned (.bool true) ∧ Below w.heap.size w w' := by
  have HT := Aside0.mk hT
  have HB := Aside0.mk (Below.refl w.heap.size w)
  have HR := Aside0.mk hr
  have HY := Aside0.mk hby
  have HLC := Aside0.mk hc
  have HM := Aside0.mk hm
  have hmz : (l.length : Int) ≤ 1048576 := by omega
  obtain ⟨R1, R2, R3, hd⟩ : ∃ R1 R2 R3, decOut l = (R1, R2, R3) := ⟨_, _, _, rfl⟩
  have HD := Aside0.mk hd
  have q1 : (R2 != R2) = false := by simp
  have q2 : (R3 != R3) = false := by simp
  clear hT hr hby hc hd hm
  go_enter Tryd.func9, Tryd.ntmps9
  go_wp2_with fail
  refine (copy_calls HR.out rfl HLC.out (by have := HM.out; omega)).mono ?_
  rintro e w1 ⟨v, rfl, ho, hb⟩
  have n0_ := Aside0.mk (below_step HB.out hb); clear HB hb; have HB := n0_; clear n0_
  obtain ⟨A1, c1, rfl, hl1, hC1⟩ := Kd.R_reads ho
  have HO := Aside0.mk (Kd.own_of_R ho)
  have HC := Aside0.mk hC1
  have HL1 := Aside0.mk hl1
  have HBs := Aside0.mk (Below.refl w1.heap.size w1)
  clear ho hl1 hC1
  go_wp2_with fail
  refine (decode_eq HD.out HY.out HC.out rfl HL1.out (by have := HM.out; omega)).mono ?_
  rintro e w2 ⟨rfl, hb⟩
  have n0_ := Aside0.mk (below_step HBs.out hb); clear HBs hb; have HBs := n0_; clear n0_
  go_wp2_with fail
  refine (rdecode_eq HD.out HY.out (Kd.C_below HR.out (below_step HB.out HBs.out)) rfl HLC.out (by have := HM.out; omega)).mono ?_
  rintro e w3 ⟨rfl, hb⟩
  have n0_ := Aside0.mk (below_step HBs.out hb); clear HBs hb; have HBs := n0_; clear n0_
  go_wp2_with fail
  refine (eq_calls true (Kd.C_below HC.out HBs.out) rfl HL1.out (Kd.C_below HR.out (below_step HB.out HBs.out)) rfl HLC.out (by have := HM.out; omega) (decide_eq_true rfl)).mono ?_
  rintro e w4 ⟨rfl, hb⟩
  have n0_ := Aside0.mk (below_step HBs.out hb); clear HBs hb; have HBs := n0_; clear n0_
  have HO4 := Aside0.mk (pw_own_below HO.out HBs.out)
  have HB4 := Aside0.mk (below_step HB.out HBs.out)
  have hsz := HB.out.size
  clear HO HC HB HBs
  rcases Nat.eq_zero_or_pos l.length with hz | hz
  · rw [hz] at *
    go_wp2
    refine wp_loop_rounds 1 ?_; rw [rounds_succ]
    go_wp2_with fail
    refine (works_calls _ (HT.out.below HB4.out)).mono ?_
    rintro e w5 ⟨rfl, hb⟩
    have HB5 := Aside0.mk (below_step HB4.out hb); clear hb
    go_wp2
    go_ret
    exact ⟨rfl, HB5.out⟩
  · obtain ⟨g, cap, e1, hgb, hgl⟩ := HO4.out.form (by omega)
    cases e1
    have HOW := Aside0.mk (show Own w4 w.heap.size g l.length c1 from ⟨l, rfl, HO4.out⟩)
    have h1 := own_base HO4.out g rfl
    have HG := Aside0.mk (show w.heap.size ≤ g by omega)
    clear HO4 h1 hgb hgl hsz
    go_wp2
    go_loopw [10] (fun i wr => ∃ k : Nat, i = .int .i64 (k : Int) ∧ k ≤ l.length ∧ Aside0 (Own wr w.heap.size g l.length c1) ∧ Aside0 (Below w.heap.size w wr)) (fun i _ => l.length - (RowKit.intOf i).toNat)
    case atStart => exact ⟨0, rfl, by omega, HOW, HB4⟩
    case round =>
      obtain ⟨k, rfl, hk, HOr, HBr⟩ := hrel
      by_cases hlt : k < l.length
      · have hltz : decide ((k : Int) < (l.length : Int)) = true := decide_eq_true (by omega)
        have hlt2 : (k : Int) < (l.length : Int) := by omega
        obtain ⟨x, hcell, hfr⟩ := HOr.out.at_ k hlt
        have HO2 := Aside0.mk (HOr.out.set k 0)
        have HB2 := Aside0.mk (HBr.out.setCell (p := ⟨g, k, none⟩) HG.out (.int .u8 0))
        clear HOr HBr HOW HB4
        go_wp2
        go_roundw
        case rel => exact ⟨k + 1, by go_num, by omega, HO2, HB2⟩
        case measure => simp [RowKit.intOf]; omega
      · have hltz : decide ((k : Int) < (l.length : Int)) = false := decide_eq_false (by omega)
        go_wp2_with fail
        refine (works_calls _ (HT.out.below HBr.out)).mono ?_
        rintro e w5 ⟨rfl, hb⟩
        have HB5 := Aside0.mk (below_step HBr.out hb); clear hb
        go_wp2
        go_ret
        exact ⟨rfl, HB5.out⟩
theorem textReads_walk (a0 : Option Addr) (len0 cap0 : Nat) (z0 : List Int) (w : World) (w0 : (a0 = none ∧ len0 = 0 ∧ cap0 = 0 ∧ z0 = []) ∨ ∃ x, a0 = some x ∧ len0 ≤ cap0 ∧ cap0 ≤ maxLen ∧ z0.length = cap0 ∧ (∀ i, i < z0.length → w.cell? (x.add i) = some (.int .u8 (z0.getD i 0))) ∧ ∀ n ∈ z0, (Lit.int .u8 n).wf = true) (y0 : len0 ≤ 1048576) (hT : Tabs w) :
    Calls Tryd.prog 9 #[.slice a0 len0 cap0] w fun e w' => e = .returned (.bool true) ∧ Below w.heap.size w w' := by
  obtain ⟨l0, rfl, hr0, hm0, hw0, hc0⟩ := ReadsInt.ofRowC w0
  exact textReads_walk0 l0 a0 cap0 w (bytes_wf hw0) (Kd.C_of_reads (d := (0 : Int)) (h1 := fun _ => rfl) hr0) hc0 y0 hT
end Go.Proofs.YthjbkgpjcfdnoaaDoor.Ext

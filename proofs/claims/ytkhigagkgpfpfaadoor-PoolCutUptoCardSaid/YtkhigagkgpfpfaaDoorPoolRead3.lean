/- The reader of package pool, walked: a text, what refers. -/
import Derived.Test.YtkhigagkgpfpfaaDoorPoolRead2
set_option linter.unusedVariables false
set_option linter.unusedSimpArgs false
namespace Go.Proofs.YtkhigagkgpfpfaaDoor.Ext
open Go.RowKit Go.Lib Go.Proofs.YtkhigagkgpfpfaaDoorW.PrintWords Go.Proofs.YtkhigagkgpfpfaaDoorW.PrintLast Go.Proofs.YtkhigagkgpfpfaaDoorW.PrintMore Go.Proofs.YtkhigagkgpfpfaaDoor.PLeb
attribute [local go_sem] max2_int min2_int max_two min_two max_three min_three max_four min_four

theorem bytesN_keep {n : Int} {b : List Int} {e : Int} (hb : Bytes b) : Bytes (bytesN n b e).1 ∧ (bytesN n b e).1.length ≤ b.length := by
  unfold bytesN
  split
  · split
    · exact ⟨fun x hx => (by cases hx), Nat.zero_le _⟩
    · exact ⟨Bytes.take hb _, by rw [List.length_take]; omega⟩
  · exact ⟨fun x hx => (by cases hx), Nat.zero_le _⟩
set_option maxHeartbeats 4000000 in
set_option maxRecDepth 100000 in
theorem text_calls {b b1 : List Int} {k e1 : Int} {t : ByteArray} {base R C : Nat} {w0 w : World} (hS : RS base R w b 0) (hCS : CS C w ⟨k, E0, 0, 0, 0, 0⟩) (hne : C ≠ R) (hby : Bytes b) (hm : b.length ≤ 35184372088000) (hB : Below base w0 w) (hbr : base ≤ R) (hbc : base ≤ C) (hv : textL b = (t, b1, e1)) :
    Calls Tryd.prog 108 #[.pointer (some ⟨R, 0, none⟩), .pointer (some ⟨C, 0, none⟩)] w (ReadPost base R C w0 w ⟨k, t, 0, 0, 0, 0⟩ b1 e1) := by
  obtain ⟨n, ba, ea, hva⟩ : ∃ n ba ea, takeU b = (n, ba, ea) := ⟨_, _, _, rfl⟩
  have hk := takeU_keep hby
  rw [hva] at hk
  obtain ⟨hkb, hkl, hn0, -⟩ : Bytes ba ∧ ba.length ≤ b.length ∧ 0 ≤ n ∧ n ≤ 9007199254740991 := hk
  obtain ⟨s, bb, eb, hvb⟩ : ∃ s bb eb, bytesN n ba ea = (s, bb, eb) := ⟨_, _, _, rfl⟩
  have hs := bytesN_keep (n := n) (e := ea) hkb
  rw [hvb] at hs
  obtain ⟨hsb, hsl⟩ : Bytes s ∧ s.length ≤ ba.length := hs
  obtain ⟨d1, d2, d3, hd⟩ : ∃ d1 d2 d3, decOut s = (d1, d2, d3) := ⟨_, _, _, rfl⟩
  have hv' : (if eb = 0 then (d1, bb, d3) else (E0, bb, eb)) = (t, b1, e1) := by
    rw [← hv]
    unfold textL
    rw [hva]
    simp only [textL1]
    rw [hvb]
    simp only [textL2]
    rw [hd]
  clear hv
  have HV := Aside0.mk hv'
  have HN := Aside0.mk (numTakeU_calls (rs_below hS (Below.drew (Below.refl _ _))) hby (by omega) hB.drew hbr (show numL takeU b 0 = (n, ba, ea) by unfold numL; rw [if_pos rfl]; exact hva))
  have HCD := Aside0.mk (show CS C w.drew ⟨k, E0, 0, 0, 0, 0⟩ from hCS)
  have HBR := Aside0.mk hbr
  have HBC := Aside0.mk hbc
  have HKD := Aside0.mk (show KeepBut w w.drew R (some C) from KeepBut.refl _ _ _)
  have HY := Aside0.mk (fun (w1 : World) (h1 : RS base R w1 ba ea) (h2 : Below base w0 w1) => bytes_calls h1 (by omega) hn0 h2 hbr hvb)
  have HD := Aside0.mk (fun (w1 : World) (A : Option Addr) (n c : Nat) (h1 : Kd.C (Kd.int .u8) w1 A s.length s) (h2 : s.length = n) (h3 : n ≤ c) => decode_eq (w := w1) hd hsb h1 h2 h3 (by omega))
  have HBRL := Aside0.mk (show base ≤ w.heap.size from Nat.le_of_lt (Nat.lt_of_le_of_lt hbr (rs_lt hS)))
  clear hS hCS hby hm hB hbr hbc hv' hva hvb hd hkb hkl hn0 hsb hsl
  unfold ReadPost
  go_enter Tryd.func108, Tryd.ntmps108
  go_wp2_with fail
  go_region_with (first
    | (go_at_call 34; refine HN.out.mono ?_; rintro y w1 ⟨rfl, hS1, hB1, hK1⟩; have HS1 := Aside0.mk hS1; have HB1 := Aside0.mk hB1; have HC1 := Aside0.mk (cs_keep HCD.out hK1 hne); have HK1 := Aside0.mk (keep_trans HKD.out (keep_weak hK1 C)); clear hS1 hB1 hK1)
    | (go_at_call 57; refine (HY.out _ HS1.out HB1.out).mono ?_; rintro y w2 ⟨A2, c2, rfl, hl2, hr2, hS2, hB2, hK2⟩; have HL2 := Aside0.mk hl2; have HR2 := Aside0.mk hr2; have HS2 := Aside0.mk hS2; have HB2 := Aside0.mk hB2; have HC2 := Aside0.mk (cs_keep HC1.out hK2 hne); have HK2 := Aside0.mk (keep_trans HK1.out (keep_weak hK2 C)); clear hl2 hr2 hS2 hB2 hK2)
    | (go_at_call 111; refine (HD.out _ _ _ _ HR2.out rfl HL2.out).mono ?_; rintro y w3 ⟨rfl, hb3⟩; have HS3 := Aside0.mk (rs_below HS2.out hb3); have HC3 := Aside0.mk (cs_below HC2.out hb3); have HB3 := Aside0.mk (below_then HB2.out (Nat.le_of_lt (Nat.lt_of_le_of_lt HBR.out (rs_lt HS2.out))) hb3); have HK3 := Aside0.mk (keep_trans HK2.out (KeepBut.of_below hb3 R (some C))); clear hb3))
  all_goals obtain ⟨A, c, hR, hl, hC, -⟩ := HS3.out
  all_goals have hC3 := HC3.out
  all_goals have c1 : w3.cell? ⟨R, 1, none⟩ = some (.int .i64 eb) := cell_of_row _ _ 1 _ _ _ hR
  all_goals have d1' : w3.cell? ⟨C, 1, none⟩ = some (.string E0) := cell_of_row _ _ 1 _ _ _ hC3
  all_goals have f1 := free_of_cells hR 1
  all_goals have g1 := free_of_cells hC3 1
  all_goals have HS := Aside0.mk (rs_err (rs_far HS3.out hC3 hne 1 (.string d1)) d3)
  all_goals have HC := Aside0.mk (cs_far (cs_set1 hC3 d1) hne 1 (.int .i64 d3))
  all_goals have HB := Aside0.mk (Below.setCell (p := ⟨R, 1, none⟩) (Below.setCell (p := ⟨C, 1, none⟩) HB3.out HBC.out (.string d1)) HBR.out (.int .i64 d3))
  all_goals have HK := Aside0.mk (KeepBut.set_ (keep_setC HK3.out 1 (.string d1)) 1 (.int .i64 d3))
  all_goals clear hR hl hC hC3
  all_goals by_cases he : eb = 0
  all_goals first
    | (subst he
       have hv := HV.out
       rw [if_pos rfl] at hv
       injection hv with h1 h2
       injection h2 with h2 h3
       subst h1; subst h2; subst h3
       go_wp2
       go_end0
       exact ⟨rfl, HS.out, HC.out, HB.out, HK.out⟩)
    | (have hv := HV.out
       rw [if_neg he] at hv
       injection hv with h1 h2
       injection h2 with h2 h3
       subst h1; subst h2; subst h3
       have q1 : (eb == 0) = false := beq_eq_false_iff_ne.2 he
       clear he
       go_wp2
       go_end0
       exact ⟨rfl, HS3.out, HC3.out, HB3.out, HK3.out⟩)
/-- a number after another -/
def refN (b : List Int) : Nat → Int × List Int × Int
  | 0 => (0, b, 0)
  | k + 1 => numL takeU (refN b k).2.1 (refN b k).2.2
def refC (b : List Int) (k0 : Int) : Nat → S35
  | 0 => ⟨k0, E0, 0, 0, 0, 0⟩
  | 1 => ⟨k0, E0, 0, (refN b 1).1, 0, 0⟩
  | 2 => ⟨k0, E0, 0, (refN b 1).1, (refN b 2).1, 0⟩
  | _ => ⟨k0, E0, 0, (refN b 1).1, (refN b 2).1, (refN b 3).1⟩
theorem refN_keep {b : List Int} (hb : Bytes b) : ∀ k, Bytes (refN b k).2.1 ∧ (refN b k).2.1.length ≤ b.length
  | 0 => ⟨hb, Nat.le_refl _⟩
  | k + 1 => by
    have h := refN_keep hb k
    show Bytes (numL takeU (refN b k).2.1 (refN b k).2.2).2.1 ∧ (numL takeU (refN b k).2.1 (refN b k).2.2).2.1.length ≤ b.length
    unfold numL
    split
    · have h2 := takeU_keep h.1
      exact ⟨h2.1, by omega⟩
    · exact h
theorem refL1_eq (b : List Int) (k0 : Int) : refL1 k0 (takeU b) = (refC b k0 3, (refN b 3).2.1, (refN b 3).2.2) := by
  have h1 : refN b 1 = takeU b := rfl
  have h2 : refN b 2 = numL takeU (refN b 1).2.1 (refN b 1).2.2 := rfl
  have h3 : refN b 3 = numL takeU (refN b 2).2.1 (refN b 2).2.2 := rfl
  have e3 : refC b k0 3 = ⟨k0, E0, 0, (refN b 1).1, (refN b 2).1, (refN b 3).1⟩ := rfl
  rw [e3, ← h1]
  generalize refN b 1 = x at *
  obtain ⟨a, c, e⟩ := x
  simp only [refL1] at *
  rw [← h2]
  generalize refN b 2 = x at *
  obtain ⟨a2, c2, e2⟩ := x
  simp only [refL2] at *
  rw [← h3]
  generalize refN b 3 = x at *
  obtain ⟨a3, c3, e3⟩ := x
  rfl
set_option maxHeartbeats 4000000 in
set_option maxRecDepth 100000 in
theorem ref_calls {b : List Int} {k : Int} {base R C : Nat} {w0 w : World} (hS : RS base R w b 0) (hCS : CS C w ⟨k, E0, 0, 0, 0, 0⟩) (hne : C ≠ R) (hby : Bytes b) (hm : b.length ≤ 35184372088000) (hB : Below base w0 w) (hbr : base ≤ R) (hbc : base ≤ C) :
    Calls Tryd.prog 110 #[.pointer (some ⟨R, 0, none⟩), .pointer (some ⟨C, 0, none⟩)] w (ReadPost base R C w0 w (refC b k 3) (refN b 3).2.1 (refN b 3).2.2) := by
  have hR := rs_lt hS
  have hCl : C < w.heap.size := lt_of_block hCS
  have HS := Aside0.mk hS
  have HCS := Aside0.mk hCS
  have HB := Aside0.mk hB
  have HBR := Aside0.mk hbr
  have HBC := Aside0.mk hbc
  have HM := Aside0.mk hm
  have HG := Aside0.mk (refN_keep hby)
  have HBW := Aside0.mk (show base ≤ w.heap.size by omega)
  have hGR : w.heap.size ≠ R := by omega
  have hGC : w.heap.size ≠ C := by omega
  clear hS hCS hby hm hB hbr hbc
  unfold ReadPost
  go_enter Tryd.func110, Tryd.ntmps110
  go_wp2_with fail
  go_region
  go_wp2
  go_loopw [17] (fun i wr => ∃ j : Nat, i = .int .i64 (j : Int) ∧ j ≤ 3 ∧ Aside0 (RS base R wr (refN b j).2.1 (refN b j).2.2) ∧ Aside0 (CS C wr (refC b k j)) ∧ Aside0 (Below base w0 wr) ∧ Aside0 (KeepBut w wr R (some C)) ∧ Aside0 (wr.heap[w.heap.size]? = some (.cells #[.pointer (some ⟨C, 3, none⟩), .pointer (some ⟨C, 4, none⟩), .pointer (some ⟨C, 5, none⟩)] 131 (0, 0)))) (fun i _ => 3 - (RowKit.intOf i).toNat)
  case atStart =>
    refine ⟨0, rfl, by omega, ⟨rs_below HS.out ?_⟩, ⟨cs_below HCS.out ?_⟩, ⟨below_then HB.out HBW.out ?_⟩, ⟨KeepBut.of_below ?_ R (some C)⟩, ⟨?_⟩⟩
    all_goals first | exact heap_alloc_new _ _ | (repeat (first | exact Below.refl _ _ | apply pw_below_drewN | apply below_alloc))
  case round =>
    obtain ⟨j, rfl, hj, HS1, HC1, HB1, HK1, HG1⟩ := hrel
    clear HS HCS HB
    by_cases hlt : j < 3
    · rcases (show j = 0 ∨ j = 1 ∨ j = 2 by omega) with rfl | rfl | rfl
      · have hN := numTakeU_calls HS1.out (HG.out 0).1 (by have := (HG.out 0).2; have := HM.out; omega) HB1.out HBR.out (show numL takeU (refN b 0).2.1 (refN b 0).2.2 = ((refN b 1).1, (refN b 1).2.1, (refN b 1).2.2) from rfl)
        have HN := Aside0.mk hN
        clear hN
        have cG : wr.cell? ⟨w.heap.size, 0, none⟩ = some (.pointer (some ⟨C, 3, none⟩)) := cell_of_row _ _ 0 _ _ _ HG1.out
        obtain ⟨n1, hn1⟩ : ∃ n1, (refN b 1).1 = n1 := ⟨_, rfl⟩
        rw [hn1] at HN
        have HN1 := Aside0.mk hn1
        clear hn1
        go_wp2_with fail
        refine HN.out.mono ?_
        rintro y w1 ⟨rfl, hS1, hB1, hK1⟩
        have hC1 := cs_keep HC1.out hK1 hne
        have d2 : w1.cell? ⟨C, 3, none⟩ = some (.int .i64 0) := cell_of_row _ _ 3 _ _ _ hC1
        have f2 := free_of_cells hC1 3
        have HS2 := Aside0.mk (rs_far hS1 hC1 hne 3 (.int .i64 n1))
        have hC2 := cs_set3 hC1 n1
        have HC2 := Aside0.mk (show CS C (w1.setCell ⟨C, 3, none⟩ (.int .i64 n1)) (refC b k 1) from (by rw [← HN1.out] at hC2 ⊢; exact hC2))
        have HB2 := Aside0.mk (Below.setCell (p := ⟨C, 3, none⟩) hB1 HBC.out (.int .i64 n1))
        have HK2 := Aside0.mk (keep_setC (keep_trans HK1.out (keep_weak hK1 C)) 3 (.int .i64 n1))
        have HG2 := Aside0.mk ((Below.heap_setCell w1 ⟨C, 3, none⟩ (.int .i64 n1) w.heap.size hGC).trans ((hK1.2 w.heap.size (lt_of_block HG1.out) hGR (by simp)).trans HG1.out))
        clear hS1 hC1 hB1 hK1 hC2 HN
        go_wp2
        go_roundw
        case rel => exact ⟨1, rfl, by omega, HS2, HC2, HB2, HK2, HG2⟩
        case measure => simp [RowKit.intOf]
      · have hN := numTakeU_calls HS1.out (HG.out 1).1 (by have := (HG.out 1).2; have := HM.out; omega) HB1.out HBR.out (show numL takeU (refN b 1).2.1 (refN b 1).2.2 = ((refN b 2).1, (refN b 2).2.1, (refN b 2).2.2) from rfl)
        have HN := Aside0.mk hN
        clear hN
        have cG : wr.cell? ⟨w.heap.size, 1, none⟩ = some (.pointer (some ⟨C, 4, none⟩)) := cell_of_row _ _ 1 _ _ _ HG1.out
        obtain ⟨n1, hn1⟩ : ∃ n1, (refN b 2).1 = n1 := ⟨_, rfl⟩
        rw [hn1] at HN
        have HN1 := Aside0.mk hn1
        clear hn1
        go_wp2_with fail
        refine HN.out.mono ?_
        rintro y w1 ⟨rfl, hS1, hB1, hK1⟩
        have hC1 := cs_keep HC1.out hK1 hne
        have d2 : w1.cell? ⟨C, 4, none⟩ = some (.int .i64 0) := cell_of_row _ _ 4 _ _ _ hC1
        have f2 := free_of_cells hC1 4
        have HS2 := Aside0.mk (rs_far hS1 hC1 hne 4 (.int .i64 n1))
        have hC2 := cs_set4 hC1 n1
        have HC2 := Aside0.mk (show CS C (w1.setCell ⟨C, 4, none⟩ (.int .i64 n1)) (refC b k 2) from (by rw [← HN1.out] at hC2 ⊢; exact hC2))
        have HB2 := Aside0.mk (Below.setCell (p := ⟨C, 4, none⟩) hB1 HBC.out (.int .i64 n1))
        have HK2 := Aside0.mk (keep_setC (keep_trans HK1.out (keep_weak hK1 C)) 4 (.int .i64 n1))
        have HG2 := Aside0.mk ((Below.heap_setCell w1 ⟨C, 4, none⟩ (.int .i64 n1) w.heap.size hGC).trans ((hK1.2 w.heap.size (lt_of_block HG1.out) hGR (by simp)).trans HG1.out))
        clear hS1 hC1 hB1 hK1 hC2 HN
        go_wp2
        go_roundw
        case rel => exact ⟨2, rfl, by omega, HS2, HC2, HB2, HK2, HG2⟩
        case measure => simp [RowKit.intOf]
      · have hN := numTakeU_calls HS1.out (HG.out 2).1 (by have := (HG.out 2).2; have := HM.out; omega) HB1.out HBR.out (show numL takeU (refN b 2).2.1 (refN b 2).2.2 = ((refN b 3).1, (refN b 3).2.1, (refN b 3).2.2) from rfl)
        have HN := Aside0.mk hN
        clear hN
        have cG : wr.cell? ⟨w.heap.size, 2, none⟩ = some (.pointer (some ⟨C, 5, none⟩)) := cell_of_row _ _ 2 _ _ _ HG1.out
        obtain ⟨n1, hn1⟩ : ∃ n1, (refN b 3).1 = n1 := ⟨_, rfl⟩
        rw [hn1] at HN
        have HN1 := Aside0.mk hn1
        clear hn1
        go_wp2_with fail
        refine HN.out.mono ?_
        rintro y w1 ⟨rfl, hS1, hB1, hK1⟩
        have hC1 := cs_keep HC1.out hK1 hne
        have d2 : w1.cell? ⟨C, 5, none⟩ = some (.int .i64 0) := cell_of_row _ _ 5 _ _ _ hC1
        have f2 := free_of_cells hC1 5
        have HS2 := Aside0.mk (rs_far hS1 hC1 hne 5 (.int .i64 n1))
        have hC2 := cs_set5 hC1 n1
        have HC2 := Aside0.mk (show CS C (w1.setCell ⟨C, 5, none⟩ (.int .i64 n1)) (refC b k 3) from (by rw [← HN1.out] at hC2 ⊢; exact hC2))
        have HB2 := Aside0.mk (Below.setCell (p := ⟨C, 5, none⟩) hB1 HBC.out (.int .i64 n1))
        have HK2 := Aside0.mk (keep_setC (keep_trans HK1.out (keep_weak hK1 C)) 5 (.int .i64 n1))
        have HG2 := Aside0.mk ((Below.heap_setCell w1 ⟨C, 5, none⟩ (.int .i64 n1) w.heap.size hGC).trans ((hK1.2 w.heap.size (lt_of_block HG1.out) hGR (by simp)).trans HG1.out))
        clear hS1 hC1 hB1 hK1 hC2 HN
        go_wp2
        go_roundw
        case rel => exact ⟨3, rfl, by omega, HS2, HC2, HB2, HK2, HG2⟩
        case measure => simp [RowKit.intOf]
    · obtain rfl : j = 3 := by omega
      go_wp2
      go_end0
      exact ⟨rfl, HS1.out, HC1.out, HB1.out, HK1.out⟩
end Go.Proofs.YtkhigagkgpfpfaaDoor.Ext

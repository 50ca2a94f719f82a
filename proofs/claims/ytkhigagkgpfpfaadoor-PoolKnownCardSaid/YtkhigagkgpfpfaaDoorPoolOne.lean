/- The reader of package pool, walked: one constant. -/
import Derived.Test.YtkhigagkgpfpfaaDoorPoolReader
set_option linter.unusedVariables false
set_option linter.unusedSimpArgs false
namespace Go.Proofs.YtkhigagkgpfpfaaDoor.Ext
open Go.RowKit Go.Lib Go.Proofs.YtkhigagkgpfpfaaDoorW.PrintWords Go.Proofs.YtkhigagkgpfpfaaDoorW.PrintLast Go.Proofs.YtkhigagkgpfpfaaDoorW.PrintMore Go.Proofs.YtkhigagkgpfpfaaDoor.PLeb
attribute [local go_sem] max2_int min2_int max_two min_two max_three min_three max_four min_four

/-- the table of what reads -/
def Rds (w : World) : Prop :=
  w.cell? ⟨0, 0, none⟩ = some .nilFunc ∧ w.cell? ⟨0, 1, none⟩ = some (.func (.func 108) #[] #[]) ∧ w.cell? ⟨0, 2, none⟩ = some (.func (.func 109) #[] #[]) ∧
  w.cell? ⟨0, 3, none⟩ = some (.func (.func 109) #[] #[]) ∧ w.cell? ⟨0, 4, none⟩ = some (.func (.func 106) #[] #[]) ∧ w.cell? ⟨0, 5, none⟩ = some (.func (.func 110) #[] #[]) ∧ w.cell? ⟨0, 6, none⟩ = some (.func (.func 110) #[] #[])
theorem Rds.from {w w1 : World} {base : Nat} (h : Rds w) (hb : Below base w w1) (h0 : 0 < base) : Rds w1 := by
  have hc : ∀ (j : Nat) (v : Value), w.cell? ⟨0, j, none⟩ = some v → w1.cell? ⟨0, j, none⟩ = some v := fun j v hv => (World.cell?_of_block (a := ⟨0, j, none⟩) (hb.block _ h0)).trans hv
  exact ⟨hc _ _ h.1, hc _ _ h.2.1, hc _ _ h.2.2.1, hc _ _ h.2.2.2.1, hc _ _ h.2.2.2.2.1, hc _ _ h.2.2.2.2.2.1, hc _ _ h.2.2.2.2.2.2⟩
theorem Rds.lt {w : World} (h : Rds w) : 0 < w.heap.size := World.block_lt_of_cell? w _ h.1
def OnePost (base R : Nat) (w0 w : World) (x : S35) (b : List Int) (e : Int) (y : Ending) (w' : World) : Prop :=
  y = .returned (agg35 x) ∧ RS base R w' b e ∧ Below base w0 w' ∧ KeepBut w w' R none
theorem cs_new (w : World) : CS w.heap.size (w.alloc (.cells #[.int .i64 0, .string ⟨#[]⟩, .int .i64 0, .int .i64 0, .int .i64 0, .int .i64 0] 35)) ⟨0, E0, 0, 0, 0, 0⟩ := heap_alloc_new w _
theorem rs_keepC {base : Nat} {w w1 : World} {R C : Nat} {b : List Int} {e : Int} {x : S35} (h : RS base R w b e) (hC : CS C w x) (hne : C ≠ R) (hk : KeepBut w w1 C none) : RS base R w1 b e := by
  obtain ⟨A, c, hR, hl, hr, hT⟩ := h
  exact ⟨A, c, (hk.2 R (lt_of_block hR) (fun h => hne h.symm) (by simp)).trans hR, hl, Kd.C_keep 0 hr hk (c_neC hr hC), hT.keep hC (by decide) hk⟩
/-- a constant stored whole -/
abbrev six (w : World) (C : Nat) (v0 v1 v2 v3 v4 v5 : Value) : World := (((((w.setCell ⟨C, 0, none⟩ v0).setCell ⟨C, 1, none⟩ v1).setCell ⟨C, 2, none⟩ v2).setCell ⟨C, 3, none⟩ v3).setCell ⟨C, 4, none⟩ v4).setCell ⟨C, 5, none⟩ v5
theorem six_keep (w : World) (C : Nat) (v0 v1 v2 v3 v4 v5 : Value) : KeepBut w (six w C v0 v1 v2 v3 v4 v5) C none := KeepBut.set_ (KeepBut.set_ (KeepBut.set_ (KeepBut.set_ (KeepBut.set_ (KeepBut.set_ (KeepBut.refl w C none) 0 v0) 1 v1) 2 v2) 3 v3) 4 v4) 5 v5
theorem six_below {base C : Nat} {w0 w : World} (h : Below base w0 w) (hb : base ≤ C) (v0 v1 v2 v3 v4 v5 : Value) : Below base w0 (six w C v0 v1 v2 v3 v4 v5) :=
  Below.setCell (p := ⟨C, 5, none⟩) (Below.setCell (p := ⟨C, 4, none⟩) (Below.setCell (p := ⟨C, 3, none⟩) (Below.setCell (p := ⟨C, 2, none⟩) (Below.setCell (p := ⟨C, 1, none⟩) (Below.setCell (p := ⟨C, 0, none⟩) h hb v0) hb v1) hb v2) hb v3) hb v4) hb v5
theorem cs_six {w : World} {C : Nat} {x : S35} (h : CS C w x) (y : S35) : CS C (six w C (.int .i64 y.f0) (.string y.f1) (.int .i64 y.f2) (.int .i64 y.f3) (.int .i64 y.f4) (.int .i64 y.f5)) y := by
  unfold CS at h
  have h0 := cells_set (j := 0) (u := .int .i64 y.f0) h rfl
  have h1 := cells_set (j := 1) (u := .string y.f1) h0 rfl
  have h2 := cells_set (j := 2) (u := .int .i64 y.f2) h1 rfl
  have h3 := cells_set (j := 3) (u := .int .i64 y.f3) h2 rfl
  have h4 := cells_set (j := 4) (u := .int .i64 y.f4) h3 rfl
  exact cells_set (j := 5) (u := .int .i64 y.f5) h4 rfl
theorem size35 : (Tryd.prog.info? 35).map (·.size) = some 6 := by kernel_rfl
/-- the end of reading one -/
theorem one_end {base R : Nat} {w0 w w1 : World} {b : List Int} {e : Int} {x : S35} {o : Obj} (hS : RS base R w1 b e) (hC : CS w.heap.size w1 x) (hne : w.heap.size ≠ R) (hB : Below base w0 w1) (hbw : base ≤ w.heap.size) (hK : KeepBut (w.alloc o) w1 R (some w.heap.size)) (v0 v1 v2 v3 v4 v5 : Value) :
    RS base R (six w1 w.heap.size v0 v1 v2 v3 v4 v5) b e ∧ Below base w0 (six w1 w.heap.size v0 v1 v2 v3 v4 v5) ∧ KeepBut w (six w1 w.heap.size v0 v1 v2 v3 v4 v5) R none := by
  have h6 := six_keep w1 w.heap.size v0 v1 v2 v3 v4 v5
  refine ⟨rs_keepC hS hC hne h6, six_below hB hbw _ _ _ _ _ _, ?_, fun i hi hR _ => ?_⟩
  · have h1 := hK.1
    rw [World.size_alloc] at h1
    have h2 := h6.1
    omega
  · have hi2 : i < (w.alloc o).heap.size := by rw [World.size_alloc]; omega
    have h1 := hK.2 i hi2 hR (fun h => by injection h with h; omega)
    have h2 := h6.2 i (Nat.lt_of_lt_of_le hi2 hK.1) (by omega) (by simp)
    rw [h2, h1]
    exact heap_alloc_old w o hi
set_option maxHeartbeats 4000000 in
set_option maxRecDepth 100000 in
theorem one_nil {base R : Nat} {w0 w : World} (hS : RS base R w [] 0) (hB : Below base w0 w) (hbr : base ≤ R) :
    Calls Tryd.prog 36 #[.pointer (some ⟨R, 0, none⟩)] w (OnePost base R w0 w ⟨0, E0, 0, 0, 0, 0⟩ [] 3) := by
  have hRl := rs_lt hS
  have hu35 := Tryd.underlying35
  have hY := bytes_calls (n := 1) (e := 0) (b0 := []) (b1 := []) (e1 := 3) (rs_below hS (below_alloc (Below.refl _ _) (.cells #[.int .i64 0, .string ⟨#[]⟩, .int .i64 0, .int .i64 0, .int .i64 0, .int .i64 0] 35))) (by simp) (by omega) (Below.alloc hB (by omega) _) hbr rfl
  have HY := Aside0.mk hY
  have hne : w.heap.size ≠ R := by omega
  have HBW := Aside0.mk (show base ≤ w.heap.size by omega)
  clear hS hB hbr hY
  unfold OnePost agg35
  go_enter Tryd.func36, Tryd.ntmps36
  go_wp2_with fail
  refine HY.out.mono ?_
  rintro y w1 ⟨A, c, rfl, hl, hr, hS1, hB1, hK1⟩
  have hC1 := cs_keep (cs_new w) hK1 hne
  have hC1' : w1.heap[w.heap.size]? = some (.cells #[.int .i64 0, .string E0, .int .i64 0, .int .i64 0, .int .i64 0, .int .i64 0] 35 (0, 0)) := hC1
  have HS1 := Aside0.mk hS1
  obtain ⟨A1, cc, hR1, -, -⟩ := hS1
  have x0 : w1.cell? ⟨w.heap.size, 0, none⟩ = some (.int .i64 0) := cell_of_row _ _ 0 _ _ _ hC1'
  have x1 : w1.cell? ⟨w.heap.size, 1, none⟩ = some (.string E0) := cell_of_row _ _ 1 _ _ _ hC1'
  have x2 : w1.cell? ⟨w.heap.size, 2, none⟩ = some (.int .i64 0) := cell_of_row _ _ 2 _ _ _ hC1'
  have x3 : w1.cell? ⟨w.heap.size, 3, none⟩ = some (.int .i64 0) := cell_of_row _ _ 3 _ _ _ hC1'
  have x4 : w1.cell? ⟨w.heap.size, 4, none⟩ = some (.int .i64 0) := cell_of_row _ _ 4 _ _ _ hC1'
  have x5 : w1.cell? ⟨w.heap.size, 5, none⟩ = some (.int .i64 0) := cell_of_row _ _ 5 _ _ _ hC1'
  have r1 : w1.cell? ⟨R, 1, none⟩ = some (.int .i64 3) := cell_of_row _ _ 1 _ _ _ hR1
  have g0 := free_of_cells hC1' 0
  have g1 := free_of_cells hC1' 1
  have g2 := free_of_cells hC1' 2
  have g3 := free_of_cells hC1' 3
  have g4 := free_of_cells hC1' 4
  have g5 := free_of_cells hC1' 5
  have HE := Aside0.mk (one_end HS1.out hC1 hne hB1 HBW.out (keep_weak hK1 _) (.int .i64 0) (.string E0) (.int .i64 0) (.int .i64 0) (.int .i64 0) (.int .i64 0))
  have HC6 := Aside0.mk (cs_six hC1 ⟨0, E0, 0, 0, 0, 0⟩)
  clear hl hr hB1 hK1 hC1 hC1' hR1 HY
  go_wp2
  refine bodyPost_ret (results_cell_row rfl _ _ _ _ _ _ _ rfl HC6.out hu35 rfl size35) rfl ?_
  exact ⟨rfl, HE.out.1, HE.out.2.1, HE.out.2.2⟩
theorem bytes_one (k : Int) (t : List Int) : bytesN 1 (k :: t) 0 = ([k], t, 0) := by
  unfold bytesN
  rw [if_pos rfl, if_neg (by rw [List.length_cons]; omega)]
  rfl
theorem row_one {w : World} {A : Option Addr} {k : Int} (h : Kd.C (Kd.int .u8) w A 1 [k]) : ∃ ad, A = some ad ∧ w.cell? ad = some (.int .u8 k) := by
  obtain ⟨ad, c, e1, hl, hk, hc⟩ := Kd.C_get h 0 0 (by omega) (by omega)
  have hk' : c = [.int .u8 k] := hk
  subst hk'
  exact ⟨ad, e1, hc 0 _ rfl⟩
theorem nn_ (f : FuncId) (W : World) : (binOp .eql 79 (.func (.func f) #[] #[]) .nilFunc).run Tryd.prog W = .ok (.bool false) W := by kernel_rfl
theorem nn_nil (W : World) : (binOp .eql 79 .nilFunc .nilFunc).run Tryd.prog W = .ok (.bool true) W := by kernel_rfl
theorem of_take {r : Int × List Int × Int} : ∃ a b c, r = (a, b, c) := ⟨_, _, _, rfl⟩
set_option maxHeartbeats 4000000 in
set_option maxRecDepth 100000 in
theorem one_text {t : List Int} {s : ByteArray} {b1 : List Int} {e1 : Int} (hv : textL t = (s, b1, e1)) {base R : Nat} {w0 w : World} (hS : RS base R w (1 :: t) 0) (hby : Bytes t) (hm : t.length ≤ 35184372080000) (hRd : Rds w) (hB : Below base w0 w) (hbr : base ≤ R) (h0 : 0 < base) :
    Calls Tryd.prog 36 #[.pointer (some ⟨R, 0, none⟩)] w (OnePost base R w0 w ⟨1, s, 0, 0, 0, 0⟩ b1 e1) := by
  have hRl := rs_lt hS
  have hu35 := Tryd.underlying35
  have hnn := nn_
  have hY := bytes_calls (n := 1) (e := 0) (b0 := [1]) (b1 := t) (e1 := 0) (rs_below hS (below_alloc (Below.refl _ _) (.cells #[.int .i64 0, .string ⟨#[]⟩, .int .i64 0, .int .i64 0, .int .i64 0, .int .i64 0] 35))) (by rw [List.length_cons]; omega) (by omega) (Below.alloc hB (by omega) _) hbr (bytes_one _ _)
  have HY := Aside0.mk hY
  have hne : w.heap.size ≠ R := by omega
  have hne2 : R ≠ w.heap.size := by omega
  have hg0 : w.heap.size ≠ 0 := by omega
  have hg1 : 0 ≠ w.heap.size := by omega
  have hR0 : R ≠ 0 := by omega
  have HBW := Aside0.mk (show base ≤ w.heap.size by omega)
  have HBR := Aside0.mk hbr
  have HRd := Aside0.mk hRd
  have HBY := Aside0.mk hby
  have HM := Aside0.mk hm
  clear hS hB hbr hY hby hm hRd h0
  unfold OnePost agg35
  go_enter Tryd.func36, Tryd.ntmps36
  go_wp2_with fail
  refine HY.out.mono ?_
  rintro y w1 ⟨A, c, rfl, hl, hr, hS1, hB1, hK1⟩
  obtain ⟨ad, rfl, hk⟩ := row_one hr
  have hC1 := cs_keep (cs_new w) hK1 hne
  have hC1' : w1.heap[w.heap.size]? = some (.cells #[.int .i64 0, .string E0, .int .i64 0, .int .i64 0, .int .i64 0, .int .i64 0] 35 (0, 0)) := hC1
  have HS1 := Aside0.mk hS1
  have HC1 := Aside0.mk hC1
  have HB1 := Aside0.mk hB1
  have HK1 := Aside0.mk (keep_weak hK1 w.heap.size)
  have hgl := HRd.out.lt
  obtain ⟨t0, t1, t2, t3, t4, t5, t6⟩ : Rds w1 := by
    have h2 : w1.heap[0]? = w.heap[0]? := (hK1.2 _ (by rw [World.size_alloc]; omega) (fun e => hR0 e.symm) (by simp)).trans (heap_alloc_old _ _ hgl)
    have hc : ∀ (j : Nat) (v : Value), w.cell? ⟨0, j, none⟩ = some v → w1.cell? ⟨0, j, none⟩ = some v := fun j v hv => (World.cell?_of_block (a := ⟨0, j, none⟩) h2).trans hv
    have h := HRd.out
    exact ⟨hc _ _ h.1, hc _ _ h.2.1, hc _ _ h.2.2.1, hc _ _ h.2.2.2.1, hc _ _ h.2.2.2.2.1, hc _ _ h.2.2.2.2.2.1, hc _ _ h.2.2.2.2.2.2⟩
  obtain ⟨A1, cc, hR1, -, -⟩ := hS1
  have x0 : w1.cell? ⟨w.heap.size, 0, none⟩ = some (.int .i64 0) := cell_of_row _ _ 0 _ _ _ hC1'
  have r1 : w1.cell? ⟨R, 1, none⟩ = some (.int .i64 0) := cell_of_row _ _ 1 _ _ _ hR1
  have g0 := free_of_cells hC1' 0
  have HS2 := Aside0.mk (rs_far HS1.out hC1 hne 0 (.int .i64 1))
  have hC2 : w1.heap[w.heap.size]? = _ := hC1'
  have HC2 := Aside0.mk (show CS w.heap.size (w1.setCell ⟨w.heap.size, 0, none⟩ (.int .i64 1)) ⟨1, E0, 0, 0, 0, 0⟩ from cells_set hC1' rfl)
  have HB2 := Aside0.mk (Below.setCell (p := ⟨w.heap.size, 0, none⟩) HB1.out HBW.out (.int .i64 1))
  have HK2 := Aside0.mk (keep_setC HK1.out 0 (.int .i64 1))
  clear hl hr hB1 hK1 hC1 hC1' hC2 hR1 HY hgl
  have HV := Aside0.mk hv
  clear hv
  go_wp2_with fail
  refine (text_calls HS2.out HC2.out hne HBY.out (by have := HM.out; omega) HB2.out HBR.out HBW.out HV.out).mono ?_
  rintro y w4 ⟨rfl, hS4, hC4, hB4, hK4⟩
  have hC4' : w4.heap[w.heap.size]? = some (.cells #[.int .i64 1, .string s, .int .i64 0, .int .i64 0, .int .i64 0, .int .i64 0] 35 (0, 0)) := hC4
  have y0 : w4.cell? ⟨w.heap.size, 0, none⟩ = some (.int .i64 1) := cell_of_row _ _ 0 _ _ _ hC4'
  have y1 : w4.cell? ⟨w.heap.size, 1, none⟩ = some (.string s) := cell_of_row _ _ 1 _ _ _ hC4'
  have y2 : w4.cell? ⟨w.heap.size, 2, none⟩ = some (.int .i64 0) := cell_of_row _ _ 2 _ _ _ hC4'
  have y3 : w4.cell? ⟨w.heap.size, 3, none⟩ = some (.int .i64 0) := cell_of_row _ _ 3 _ _ _ hC4'
  have y4 : w4.cell? ⟨w.heap.size, 4, none⟩ = some (.int .i64 0) := cell_of_row _ _ 4 _ _ _ hC4'
  have y5 : w4.cell? ⟨w.heap.size, 5, none⟩ = some (.int .i64 0) := cell_of_row _ _ 5 _ _ _ hC4'
  have k0 := free_of_cells hC4' 0
  have k1 := free_of_cells hC4' 1
  have k2 := free_of_cells hC4' 2
  have k3 := free_of_cells hC4' 3
  have k4 := free_of_cells hC4' 4
  have k5 := free_of_cells hC4' 5
  have HE := Aside0.mk (one_end hS4 hC4 hne hB4 HBW.out (keep_trans HK2.out hK4) (.int .i64 1) (.string s) (.int .i64 0) (.int .i64 0) (.int .i64 0) (.int .i64 0))
  have HC6 := Aside0.mk (cs_six hC4 ⟨1, s, 0, 0, 0, 0⟩)
  clear hS4 hC4 hB4 hK4 hC4'
  go_wp2
  refine bodyPost_ret (results_cell_row rfl _ _ _ _ _ _ _ rfl HC6.out hu35 rfl size35) rfl ?_
  exact ⟨rfl, HE.out.1, HE.out.2.1, HE.out.2.2⟩
set_option maxHeartbeats 4000000 in
set_option maxRecDepth 100000 in
theorem one_num2 {t : List Int} {n b1 e1} (hv : takeS t = (n, b1, e1)) {base R : Nat} {w0 w : World} (hS : RS base R w (2 :: t) 0) (hby : Bytes t) (hm : t.length ≤ 35184372080000) (hRd : Rds w) (hB : Below base w0 w) (hbr : base ≤ R) (h0 : 0 < base) :
    Calls Tryd.prog 36 #[.pointer (some ⟨R, 0, none⟩)] w (OnePost base R w0 w ⟨2, E0, n, 0, 0, 0⟩ b1 e1) := by
  have hRl := rs_lt hS
  have hu35 := Tryd.underlying35
  have hnn := nn_
  have hY := bytes_calls (n := 1) (e := 0) (b0 := [2]) (b1 := t) (e1 := 0) (rs_below hS (below_alloc (Below.refl _ _) (.cells #[.int .i64 0, .string ⟨#[]⟩, .int .i64 0, .int .i64 0, .int .i64 0, .int .i64 0] 35))) (by rw [List.length_cons]; omega) (by omega) (Below.alloc hB (by omega) _) hbr (bytes_one _ _)
  have HY := Aside0.mk hY
  have hne : w.heap.size ≠ R := by omega
  have hne2 : R ≠ w.heap.size := by omega
  have hg0 : w.heap.size ≠ 0 := by omega
  have hg1 : 0 ≠ w.heap.size := by omega
  have hR0 : R ≠ 0 := by omega
  have HBW := Aside0.mk (show base ≤ w.heap.size by omega)
  have HBR := Aside0.mk hbr
  have HRd := Aside0.mk hRd
  have HBY := Aside0.mk hby
  have HM := Aside0.mk hm
  clear hS hB hbr hY hby hm hRd h0
  unfold OnePost agg35
  go_enter Tryd.func36, Tryd.ntmps36
  go_wp2_with fail
  refine HY.out.mono ?_
  rintro y w1 ⟨A, c, rfl, hl, hr, hS1, hB1, hK1⟩
  obtain ⟨ad, rfl, hk⟩ := row_one hr
  have hC1 := cs_keep (cs_new w) hK1 hne
  have hC1' : w1.heap[w.heap.size]? = some (.cells #[.int .i64 0, .string E0, .int .i64 0, .int .i64 0, .int .i64 0, .int .i64 0] 35 (0, 0)) := hC1
  have HS1 := Aside0.mk hS1
  have HC1 := Aside0.mk hC1
  have HB1 := Aside0.mk hB1
  have HK1 := Aside0.mk (keep_weak hK1 w.heap.size)
  have hgl := HRd.out.lt
  obtain ⟨t0, t1, t2, t3, t4, t5, t6⟩ : Rds w1 := by
    have h2 : w1.heap[0]? = w.heap[0]? := (hK1.2 _ (by rw [World.size_alloc]; omega) (fun e => hR0 e.symm) (by simp)).trans (heap_alloc_old _ _ hgl)
    have hc : ∀ (j : Nat) (v : Value), w.cell? ⟨0, j, none⟩ = some v → w1.cell? ⟨0, j, none⟩ = some v := fun j v hv => (World.cell?_of_block (a := ⟨0, j, none⟩) h2).trans hv
    have h := HRd.out
    exact ⟨hc _ _ h.1, hc _ _ h.2.1, hc _ _ h.2.2.1, hc _ _ h.2.2.2.1, hc _ _ h.2.2.2.2.1, hc _ _ h.2.2.2.2.2.1, hc _ _ h.2.2.2.2.2.2⟩
  obtain ⟨A1, cc, hR1, -, -⟩ := hS1
  have x0 : w1.cell? ⟨w.heap.size, 0, none⟩ = some (.int .i64 0) := cell_of_row _ _ 0 _ _ _ hC1'
  have r1 : w1.cell? ⟨R, 1, none⟩ = some (.int .i64 0) := cell_of_row _ _ 1 _ _ _ hR1
  have g0 := free_of_cells hC1' 0
  have HS2 := Aside0.mk (rs_far HS1.out hC1 hne 0 (.int .i64 2))
  have hC2 : w1.heap[w.heap.size]? = _ := hC1'
  have HC2 := Aside0.mk (show CS w.heap.size (w1.setCell ⟨w.heap.size, 0, none⟩ (.int .i64 2)) ⟨2, E0, 0, 0, 0, 0⟩ from cells_set hC1' rfl)
  have HB2 := Aside0.mk (Below.setCell (p := ⟨w.heap.size, 0, none⟩) HB1.out HBW.out (.int .i64 2))
  have HK2 := Aside0.mk (keep_setC HK1.out 0 (.int .i64 2))
  clear hl hr hB1 hK1 hC1 hC1' hC2 hR1 HY hgl
  have HV := Aside0.mk hv
  clear hv
  go_wp2_with fail
  refine (number_calls HS2.out HC2.out hne HBY.out (by have := HM.out; omega) HB2.out HBR.out HBW.out HV.out).mono ?_
  rintro y w4 ⟨rfl, hS4, hC4, hB4, hK4⟩
  have hC4' : w4.heap[w.heap.size]? = some (.cells #[.int .i64 2, .string E0, .int .i64 n, .int .i64 0, .int .i64 0, .int .i64 0] 35 (0, 0)) := hC4
  have y0 : w4.cell? ⟨w.heap.size, 0, none⟩ = some (.int .i64 2) := cell_of_row _ _ 0 _ _ _ hC4'
  have y1 : w4.cell? ⟨w.heap.size, 1, none⟩ = some (.string E0) := cell_of_row _ _ 1 _ _ _ hC4'
  have y2 : w4.cell? ⟨w.heap.size, 2, none⟩ = some (.int .i64 n) := cell_of_row _ _ 2 _ _ _ hC4'
  have y3 : w4.cell? ⟨w.heap.size, 3, none⟩ = some (.int .i64 0) := cell_of_row _ _ 3 _ _ _ hC4'
  have y4 : w4.cell? ⟨w.heap.size, 4, none⟩ = some (.int .i64 0) := cell_of_row _ _ 4 _ _ _ hC4'
  have y5 : w4.cell? ⟨w.heap.size, 5, none⟩ = some (.int .i64 0) := cell_of_row _ _ 5 _ _ _ hC4'
  have k0 := free_of_cells hC4' 0
  have k1 := free_of_cells hC4' 1
  have k2 := free_of_cells hC4' 2
  have k3 := free_of_cells hC4' 3
  have k4 := free_of_cells hC4' 4
  have k5 := free_of_cells hC4' 5
  have HE := Aside0.mk (one_end hS4 hC4 hne hB4 HBW.out (keep_trans HK2.out hK4) (.int .i64 2) (.string E0) (.int .i64 n) (.int .i64 0) (.int .i64 0) (.int .i64 0))
  have HC6 := Aside0.mk (cs_six hC4 ⟨2, E0, n, 0, 0, 0⟩)
  clear hS4 hC4 hB4 hK4 hC4'
  go_wp2
  refine bodyPost_ret (results_cell_row rfl _ _ _ _ _ _ _ rfl HC6.out hu35 rfl size35) rfl ?_
  exact ⟨rfl, HE.out.1, HE.out.2.1, HE.out.2.2⟩
set_option maxHeartbeats 4000000 in
set_option maxRecDepth 100000 in
theorem one_num3 {t : List Int} {n b1 e1} (hv : takeS t = (n, b1, e1)) {base R : Nat} {w0 w : World} (hS : RS base R w (3 :: t) 0) (hby : Bytes t) (hm : t.length ≤ 35184372080000) (hRd : Rds w) (hB : Below base w0 w) (hbr : base ≤ R) (h0 : 0 < base) :
    Calls Tryd.prog 36 #[.pointer (some ⟨R, 0, none⟩)] w (OnePost base R w0 w ⟨3, E0, n, 0, 0, 0⟩ b1 e1) := by
  have hRl := rs_lt hS
  have hu35 := Tryd.underlying35
  have hnn := nn_
  have hY := bytes_calls (n := 1) (e := 0) (b0 := [3]) (b1 := t) (e1 := 0) (rs_below hS (below_alloc (Below.refl _ _) (.cells #[.int .i64 0, .string ⟨#[]⟩, .int .i64 0, .int .i64 0, .int .i64 0, .int .i64 0] 35))) (by rw [List.length_cons]; omega) (by omega) (Below.alloc hB (by omega) _) hbr (bytes_one _ _)
  have HY := Aside0.mk hY
  have hne : w.heap.size ≠ R := by omega
  have hne2 : R ≠ w.heap.size := by omega
  have hg0 : w.heap.size ≠ 0 := by omega
  have hg1 : 0 ≠ w.heap.size := by omega
  have hR0 : R ≠ 0 := by omega
  have HBW := Aside0.mk (show base ≤ w.heap.size by omega)
  have HBR := Aside0.mk hbr
  have HRd := Aside0.mk hRd
  have HBY := Aside0.mk hby
  have HM := Aside0.mk hm
  clear hS hB hbr hY hby hm hRd h0
  unfold OnePost agg35
  go_enter Tryd.func36, Tryd.ntmps36
  go_wp2_with fail
  refine HY.out.mono ?_
  rintro y w1 ⟨A, c, rfl, hl, hr, hS1, hB1, hK1⟩
  obtain ⟨ad, rfl, hk⟩ := row_one hr
  have hC1 := cs_keep (cs_new w) hK1 hne
  have hC1' : w1.heap[w.heap.size]? = some (.cells #[.int .i64 0, .string E0, .int .i64 0, .int .i64 0, .int .i64 0, .int .i64 0] 35 (0, 0)) := hC1
  have HS1 := Aside0.mk hS1
  have HC1 := Aside0.mk hC1
  have HB1 := Aside0.mk hB1
  have HK1 := Aside0.mk (keep_weak hK1 w.heap.size)
  have hgl := HRd.out.lt
  obtain ⟨t0, t1, t2, t3, t4, t5, t6⟩ : Rds w1 := by
    have h2 : w1.heap[0]? = w.heap[0]? := (hK1.2 _ (by rw [World.size_alloc]; omega) (fun e => hR0 e.symm) (by simp)).trans (heap_alloc_old _ _ hgl)
    have hc : ∀ (j : Nat) (v : Value), w.cell? ⟨0, j, none⟩ = some v → w1.cell? ⟨0, j, none⟩ = some v := fun j v hv => (World.cell?_of_block (a := ⟨0, j, none⟩) h2).trans hv
    have h := HRd.out
    exact ⟨hc _ _ h.1, hc _ _ h.2.1, hc _ _ h.2.2.1, hc _ _ h.2.2.2.1, hc _ _ h.2.2.2.2.1, hc _ _ h.2.2.2.2.2.1, hc _ _ h.2.2.2.2.2.2⟩
  obtain ⟨A1, cc, hR1, -, -⟩ := hS1
  have x0 : w1.cell? ⟨w.heap.size, 0, none⟩ = some (.int .i64 0) := cell_of_row _ _ 0 _ _ _ hC1'
  have r1 : w1.cell? ⟨R, 1, none⟩ = some (.int .i64 0) := cell_of_row _ _ 1 _ _ _ hR1
  have g0 := free_of_cells hC1' 0
  have HS2 := Aside0.mk (rs_far HS1.out hC1 hne 0 (.int .i64 3))
  have hC2 : w1.heap[w.heap.size]? = _ := hC1'
  have HC2 := Aside0.mk (show CS w.heap.size (w1.setCell ⟨w.heap.size, 0, none⟩ (.int .i64 3)) ⟨3, E0, 0, 0, 0, 0⟩ from cells_set hC1' rfl)
  have HB2 := Aside0.mk (Below.setCell (p := ⟨w.heap.size, 0, none⟩) HB1.out HBW.out (.int .i64 3))
  have HK2 := Aside0.mk (keep_setC HK1.out 0 (.int .i64 3))
  clear hl hr hB1 hK1 hC1 hC1' hC2 hR1 HY hgl
  have HV := Aside0.mk hv
  clear hv
  go_wp2_with fail
  refine (number_calls HS2.out HC2.out hne HBY.out (by have := HM.out; omega) HB2.out HBR.out HBW.out HV.out).mono ?_
  rintro y w4 ⟨rfl, hS4, hC4, hB4, hK4⟩
  have hC4' : w4.heap[w.heap.size]? = some (.cells #[.int .i64 3, .string E0, .int .i64 n, .int .i64 0, .int .i64 0, .int .i64 0] 35 (0, 0)) := hC4
  have y0 : w4.cell? ⟨w.heap.size, 0, none⟩ = some (.int .i64 3) := cell_of_row _ _ 0 _ _ _ hC4'
  have y1 : w4.cell? ⟨w.heap.size, 1, none⟩ = some (.string E0) := cell_of_row _ _ 1 _ _ _ hC4'
  have y2 : w4.cell? ⟨w.heap.size, 2, none⟩ = some (.int .i64 n) := cell_of_row _ _ 2 _ _ _ hC4'
  have y3 : w4.cell? ⟨w.heap.size, 3, none⟩ = some (.int .i64 0) := cell_of_row _ _ 3 _ _ _ hC4'
  have y4 : w4.cell? ⟨w.heap.size, 4, none⟩ = some (.int .i64 0) := cell_of_row _ _ 4 _ _ _ hC4'
  have y5 : w4.cell? ⟨w.heap.size, 5, none⟩ = some (.int .i64 0) := cell_of_row _ _ 5 _ _ _ hC4'
  have k0 := free_of_cells hC4' 0
  have k1 := free_of_cells hC4' 1
  have k2 := free_of_cells hC4' 2
  have k3 := free_of_cells hC4' 3
  have k4 := free_of_cells hC4' 4
  have k5 := free_of_cells hC4' 5
  have HE := Aside0.mk (one_end hS4 hC4 hne hB4 HBW.out (keep_trans HK2.out hK4) (.int .i64 3) (.string E0) (.int .i64 n) (.int .i64 0) (.int .i64 0) (.int .i64 0))
  have HC6 := Aside0.mk (cs_six hC4 ⟨3, E0, n, 0, 0, 0⟩)
  clear hS4 hC4 hB4 hK4 hC4'
  go_wp2
  refine bodyPost_ret (results_cell_row rfl _ _ _ _ _ _ _ rfl HC6.out hu35 rfl size35) rfl ?_
  exact ⟨rfl, HE.out.1, HE.out.2.1, HE.out.2.2⟩
set_option maxHeartbeats 4000000 in
set_option maxRecDepth 100000 in
theorem one_class {t : List Int} {n b1 e1} (hv : takeU t = (n, b1, e1)) {base R : Nat} {w0 w : World} (hS : RS base R w (4 :: t) 0) (hby : Bytes t) (hm : t.length ≤ 35184372080000) (hRd : Rds w) (hB : Below base w0 w) (hbr : base ≤ R) (h0 : 0 < base) :
    Calls Tryd.prog 36 #[.pointer (some ⟨R, 0, none⟩)] w (OnePost base R w0 w ⟨4, E0, 0, n, 0, 0⟩ b1 e1) := by
  have hRl := rs_lt hS
  have hu35 := Tryd.underlying35
  have hnn := nn_
  have hY := bytes_calls (n := 1) (e := 0) (b0 := [4]) (b1 := t) (e1 := 0) (rs_below hS (below_alloc (Below.refl _ _) (.cells #[.int .i64 0, .string ⟨#[]⟩, .int .i64 0, .int .i64 0, .int .i64 0, .int .i64 0] 35))) (by rw [List.length_cons]; omega) (by omega) (Below.alloc hB (by omega) _) hbr (bytes_one _ _)
  have HY := Aside0.mk hY
  have hne : w.heap.size ≠ R := by omega
  have hne2 : R ≠ w.heap.size := by omega
  have hg0 : w.heap.size ≠ 0 := by omega
  have hg1 : 0 ≠ w.heap.size := by omega
  have hR0 : R ≠ 0 := by omega
  have HBW := Aside0.mk (show base ≤ w.heap.size by omega)
  have HBR := Aside0.mk hbr
  have HRd := Aside0.mk hRd
  have HBY := Aside0.mk hby
  have HM := Aside0.mk hm
  clear hS hB hbr hY hby hm hRd h0
  unfold OnePost agg35
  go_enter Tryd.func36, Tryd.ntmps36
  go_wp2_with fail
  refine HY.out.mono ?_
  rintro y w1 ⟨A, c, rfl, hl, hr, hS1, hB1, hK1⟩
  obtain ⟨ad, rfl, hk⟩ := row_one hr
  have hC1 := cs_keep (cs_new w) hK1 hne
  have hC1' : w1.heap[w.heap.size]? = some (.cells #[.int .i64 0, .string E0, .int .i64 0, .int .i64 0, .int .i64 0, .int .i64 0] 35 (0, 0)) := hC1
  have HS1 := Aside0.mk hS1
  have HC1 := Aside0.mk hC1
  have HB1 := Aside0.mk hB1
  have HK1 := Aside0.mk (keep_weak hK1 w.heap.size)
  have hgl := HRd.out.lt
  obtain ⟨t0, t1, t2, t3, t4, t5, t6⟩ : Rds w1 := by
    have h2 : w1.heap[0]? = w.heap[0]? := (hK1.2 _ (by rw [World.size_alloc]; omega) (fun e => hR0 e.symm) (by simp)).trans (heap_alloc_old _ _ hgl)
    have hc : ∀ (j : Nat) (v : Value), w.cell? ⟨0, j, none⟩ = some v → w1.cell? ⟨0, j, none⟩ = some v := fun j v hv => (World.cell?_of_block (a := ⟨0, j, none⟩) h2).trans hv
    have h := HRd.out
    exact ⟨hc _ _ h.1, hc _ _ h.2.1, hc _ _ h.2.2.1, hc _ _ h.2.2.2.1, hc _ _ h.2.2.2.2.1, hc _ _ h.2.2.2.2.2.1, hc _ _ h.2.2.2.2.2.2⟩
  obtain ⟨A1, cc, hR1, -, -⟩ := hS1
  have x0 : w1.cell? ⟨w.heap.size, 0, none⟩ = some (.int .i64 0) := cell_of_row _ _ 0 _ _ _ hC1'
  have r1 : w1.cell? ⟨R, 1, none⟩ = some (.int .i64 0) := cell_of_row _ _ 1 _ _ _ hR1
  have g0 := free_of_cells hC1' 0
  have HS2 := Aside0.mk (rs_far HS1.out hC1 hne 0 (.int .i64 4))
  have hC2 : w1.heap[w.heap.size]? = _ := hC1'
  have HC2 := Aside0.mk (show CS w.heap.size (w1.setCell ⟨w.heap.size, 0, none⟩ (.int .i64 4)) ⟨4, E0, 0, 0, 0, 0⟩ from cells_set hC1' rfl)
  have HB2 := Aside0.mk (Below.setCell (p := ⟨w.heap.size, 0, none⟩) HB1.out HBW.out (.int .i64 4))
  have HK2 := Aside0.mk (keep_setC HK1.out 0 (.int .i64 4))
  clear hl hr hB1 hK1 hC1 hC1' hC2 hR1 HY hgl
  have HV := Aside0.mk hv
  clear hv
  go_wp2_with fail
  refine (class_calls HS2.out HC2.out hne HBY.out (by have := HM.out; omega) HB2.out HBR.out HBW.out HV.out).mono ?_
  rintro y w4 ⟨rfl, hS4, hC4, hB4, hK4⟩
  have hC4' : w4.heap[w.heap.size]? = some (.cells #[.int .i64 4, .string E0, .int .i64 0, .int .i64 n, .int .i64 0, .int .i64 0] 35 (0, 0)) := hC4
  have y0 : w4.cell? ⟨w.heap.size, 0, none⟩ = some (.int .i64 4) := cell_of_row _ _ 0 _ _ _ hC4'
  have y1 : w4.cell? ⟨w.heap.size, 1, none⟩ = some (.string E0) := cell_of_row _ _ 1 _ _ _ hC4'
  have y2 : w4.cell? ⟨w.heap.size, 2, none⟩ = some (.int .i64 0) := cell_of_row _ _ 2 _ _ _ hC4'
  have y3 : w4.cell? ⟨w.heap.size, 3, none⟩ = some (.int .i64 n) := cell_of_row _ _ 3 _ _ _ hC4'
  have y4 : w4.cell? ⟨w.heap.size, 4, none⟩ = some (.int .i64 0) := cell_of_row _ _ 4 _ _ _ hC4'
  have y5 : w4.cell? ⟨w.heap.size, 5, none⟩ = some (.int .i64 0) := cell_of_row _ _ 5 _ _ _ hC4'
  have k0 := free_of_cells hC4' 0
  have k1 := free_of_cells hC4' 1
  have k2 := free_of_cells hC4' 2
  have k3 := free_of_cells hC4' 3
  have k4 := free_of_cells hC4' 4
  have k5 := free_of_cells hC4' 5
  have HE := Aside0.mk (one_end hS4 hC4 hne hB4 HBW.out (keep_trans HK2.out hK4) (.int .i64 4) (.string E0) (.int .i64 0) (.int .i64 n) (.int .i64 0) (.int .i64 0))
  have HC6 := Aside0.mk (cs_six hC4 ⟨4, E0, 0, n, 0, 0⟩)
  clear hS4 hC4 hB4 hK4 hC4'
  go_wp2
  refine bodyPost_ret (results_cell_row rfl _ _ _ _ _ _ _ rfl HC6.out hu35 rfl size35) rfl ?_
  exact ⟨rfl, HE.out.1, HE.out.2.1, HE.out.2.2⟩
set_option maxHeartbeats 4000000 in
set_option maxRecDepth 100000 in
theorem one_ref5 {t : List Int} {x y z b1 e1} (hv1 : (refN t 1).1 = x) (hv2 : (refN t 2).1 = y) (hv3 : refN t 3 = (z, b1, e1)) {base R : Nat} {w0 w : World} (hS : RS base R w (5 :: t) 0) (hby : Bytes t) (hm : t.length ≤ 35184372080000) (hRd : Rds w) (hB : Below base w0 w) (hbr : base ≤ R) (h0 : 0 < base) :
    Calls Tryd.prog 36 #[.pointer (some ⟨R, 0, none⟩)] w (OnePost base R w0 w ⟨5, E0, 0, x, y, z⟩ b1 e1) := by
  have hRl := rs_lt hS
  have hu35 := Tryd.underlying35
  have hnn := nn_
  have hY := bytes_calls (n := 1) (e := 0) (b0 := [5]) (b1 := t) (e1 := 0) (rs_below hS (below_alloc (Below.refl _ _) (.cells #[.int .i64 0, .string ⟨#[]⟩, .int .i64 0, .int .i64 0, .int .i64 0, .int .i64 0] 35))) (by rw [List.length_cons]; omega) (by omega) (Below.alloc hB (by omega) _) hbr (bytes_one _ _)
  have HY := Aside0.mk hY
  have hne : w.heap.size ≠ R := by omega
  have hne2 : R ≠ w.heap.size := by omega
  have hg0 : w.heap.size ≠ 0 := by omega
  have hg1 : 0 ≠ w.heap.size := by omega
  have hR0 : R ≠ 0 := by omega
  have HBW := Aside0.mk (show base ≤ w.heap.size by omega)
  have HBR := Aside0.mk hbr
  have HRd := Aside0.mk hRd
  have HBY := Aside0.mk hby
  have HM := Aside0.mk hm
  clear hS hB hbr hY hby hm hRd h0
  unfold OnePost agg35
  go_enter Tryd.func36, Tryd.ntmps36
  go_wp2_with fail
  refine HY.out.mono ?_
  rintro y w1 ⟨A, c, rfl, hl, hr, hS1, hB1, hK1⟩
  obtain ⟨ad, rfl, hk⟩ := row_one hr
  have hC1 := cs_keep (cs_new w) hK1 hne
  have hC1' : w1.heap[w.heap.size]? = some (.cells #[.int .i64 0, .string E0, .int .i64 0, .int .i64 0, .int .i64 0, .int .i64 0] 35 (0, 0)) := hC1
  have HS1 := Aside0.mk hS1
  have HC1 := Aside0.mk hC1
  have HB1 := Aside0.mk hB1
  have HK1 := Aside0.mk (keep_weak hK1 w.heap.size)
  have hgl := HRd.out.lt
  obtain ⟨t0, t1, t2, t3, t4, t5, t6⟩ : Rds w1 := by
    have h2 : w1.heap[0]? = w.heap[0]? := (hK1.2 _ (by rw [World.size_alloc]; omega) (fun e => hR0 e.symm) (by simp)).trans (heap_alloc_old _ _ hgl)
    have hc : ∀ (j : Nat) (v : Value), w.cell? ⟨0, j, none⟩ = some v → w1.cell? ⟨0, j, none⟩ = some v := fun j v hv => (World.cell?_of_block (a := ⟨0, j, none⟩) h2).trans hv
    have h := HRd.out
    exact ⟨hc _ _ h.1, hc _ _ h.2.1, hc _ _ h.2.2.1, hc _ _ h.2.2.2.1, hc _ _ h.2.2.2.2.1, hc _ _ h.2.2.2.2.2.1, hc _ _ h.2.2.2.2.2.2⟩
  obtain ⟨A1, cc, hR1, -, -⟩ := hS1
  have x0 : w1.cell? ⟨w.heap.size, 0, none⟩ = some (.int .i64 0) := cell_of_row _ _ 0 _ _ _ hC1'
  have r1 : w1.cell? ⟨R, 1, none⟩ = some (.int .i64 0) := cell_of_row _ _ 1 _ _ _ hR1
  have g0 := free_of_cells hC1' 0
  have HS2 := Aside0.mk (rs_far HS1.out hC1 hne 0 (.int .i64 5))
  have hC2 : w1.heap[w.heap.size]? = _ := hC1'
  have HC2 := Aside0.mk (show CS w.heap.size (w1.setCell ⟨w.heap.size, 0, none⟩ (.int .i64 5)) ⟨5, E0, 0, 0, 0, 0⟩ from cells_set hC1' rfl)
  have HB2 := Aside0.mk (Below.setCell (p := ⟨w.heap.size, 0, none⟩) HB1.out HBW.out (.int .i64 5))
  have HK2 := Aside0.mk (keep_setC HK1.out 0 (.int .i64 5))
  clear hl hr hB1 hK1 hC1 hC1' hC2 hR1 HY hgl
  have HV := Aside0.mk (show refC t 5 3 = ⟨5, E0, 0, x, y, z⟩ ∧ refN t 3 = (z, b1, e1) from ⟨by show (⟨_, _, _, (refN t 1).1, (refN t 2).1, (refN t 3).1⟩ : S35) = _; rw [hv1, hv2, hv3], hv3⟩)
  clear hv1 hv2 hv3
  go_wp2_with fail
  refine (ref_calls HS2.out HC2.out hne HBY.out (by have := HM.out; omega) HB2.out HBR.out HBW.out).mono ?_
  rw [HV.out.1, HV.out.2]
  rintro y' w4 ⟨rfl, hS4, hC4, hB4, hK4⟩
  have hC4' : w4.heap[w.heap.size]? = some (.cells #[.int .i64 5, .string E0, .int .i64 0, .int .i64 x, .int .i64 y, .int .i64 z] 35 (0, 0)) := hC4
  have y0 : w4.cell? ⟨w.heap.size, 0, none⟩ = some (.int .i64 5) := cell_of_row _ _ 0 _ _ _ hC4'
  have y1 : w4.cell? ⟨w.heap.size, 1, none⟩ = some (.string E0) := cell_of_row _ _ 1 _ _ _ hC4'
  have y2 : w4.cell? ⟨w.heap.size, 2, none⟩ = some (.int .i64 0) := cell_of_row _ _ 2 _ _ _ hC4'
  have y3 : w4.cell? ⟨w.heap.size, 3, none⟩ = some (.int .i64 x) := cell_of_row _ _ 3 _ _ _ hC4'
  have y4 : w4.cell? ⟨w.heap.size, 4, none⟩ = some (.int .i64 y) := cell_of_row _ _ 4 _ _ _ hC4'
  have y5 : w4.cell? ⟨w.heap.size, 5, none⟩ = some (.int .i64 z) := cell_of_row _ _ 5 _ _ _ hC4'
  have k0 := free_of_cells hC4' 0
  have k1 := free_of_cells hC4' 1
  have k2 := free_of_cells hC4' 2
  have k3 := free_of_cells hC4' 3
  have k4 := free_of_cells hC4' 4
  have k5 := free_of_cells hC4' 5
  have HE := Aside0.mk (one_end hS4 hC4 hne hB4 HBW.out (keep_trans HK2.out hK4) (.int .i64 5) (.string E0) (.int .i64 0) (.int .i64 x) (.int .i64 y) (.int .i64 z))
  have HC6 := Aside0.mk (cs_six hC4 ⟨5, E0, 0, x, y, z⟩)
  clear hS4 hC4 hB4 hK4 hC4'
  go_wp2
  refine bodyPost_ret (results_cell_row rfl _ _ _ _ _ _ _ rfl HC6.out hu35 rfl size35) rfl ?_
  exact ⟨rfl, HE.out.1, HE.out.2.1, HE.out.2.2⟩
set_option maxHeartbeats 4000000 in
set_option maxRecDepth 100000 in
theorem one_ref6 {t : List Int} {x y z b1 e1} (hv1 : (refN t 1).1 = x) (hv2 : (refN t 2).1 = y) (hv3 : refN t 3 = (z, b1, e1)) {base R : Nat} {w0 w : World} (hS : RS base R w (6 :: t) 0) (hby : Bytes t) (hm : t.length ≤ 35184372080000) (hRd : Rds w) (hB : Below base w0 w) (hbr : base ≤ R) (h0 : 0 < base) :
    Calls Tryd.prog 36 #[.pointer (some ⟨R, 0, none⟩)] w (OnePost base R w0 w ⟨6, E0, 0, x, y, z⟩ b1 e1) := by
  have hRl := rs_lt hS
  have hu35 := Tryd.underlying35
  have hnn := nn_
  have hY := bytes_calls (n := 1) (e := 0) (b0 := [6]) (b1 := t) (e1 := 0) (rs_below hS (below_alloc (Below.refl _ _) (.cells #[.int .i64 0, .string ⟨#[]⟩, .int .i64 0, .int .i64 0, .int .i64 0, .int .i64 0] 35))) (by rw [List.length_cons]; omega) (by omega) (Below.alloc hB (by omega) _) hbr (bytes_one _ _)
  have HY := Aside0.mk hY
  have hne : w.heap.size ≠ R := by omega
  have hne2 : R ≠ w.heap.size := by omega
  have hg0 : w.heap.size ≠ 0 := by omega
  have hg1 : 0 ≠ w.heap.size := by omega
  have hR0 : R ≠ 0 := by omega
  have HBW := Aside0.mk (show base ≤ w.heap.size by omega)
  have HBR := Aside0.mk hbr
  have HRd := Aside0.mk hRd
  have HBY := Aside0.mk hby
  have HM := Aside0.mk hm
  clear hS hB hbr hY hby hm hRd h0
  unfold OnePost agg35
  go_enter Tryd.func36, Tryd.ntmps36
  go_wp2_with fail
  refine HY.out.mono ?_
  rintro y w1 ⟨A, c, rfl, hl, hr, hS1, hB1, hK1⟩
  obtain ⟨ad, rfl, hk⟩ := row_one hr
  have hC1 := cs_keep (cs_new w) hK1 hne
  have hC1' : w1.heap[w.heap.size]? = some (.cells #[.int .i64 0, .string E0, .int .i64 0, .int .i64 0, .int .i64 0, .int .i64 0] 35 (0, 0)) := hC1
  have HS1 := Aside0.mk hS1
  have HC1 := Aside0.mk hC1
  have HB1 := Aside0.mk hB1
  have HK1 := Aside0.mk (keep_weak hK1 w.heap.size)
  have hgl := HRd.out.lt
  obtain ⟨t0, t1, t2, t3, t4, t5, t6⟩ : Rds w1 := by
    have h2 : w1.heap[0]? = w.heap[0]? := (hK1.2 _ (by rw [World.size_alloc]; omega) (fun e => hR0 e.symm) (by simp)).trans (heap_alloc_old _ _ hgl)
    have hc : ∀ (j : Nat) (v : Value), w.cell? ⟨0, j, none⟩ = some v → w1.cell? ⟨0, j, none⟩ = some v := fun j v hv => (World.cell?_of_block (a := ⟨0, j, none⟩) h2).trans hv
    have h := HRd.out
    exact ⟨hc _ _ h.1, hc _ _ h.2.1, hc _ _ h.2.2.1, hc _ _ h.2.2.2.1, hc _ _ h.2.2.2.2.1, hc _ _ h.2.2.2.2.2.1, hc _ _ h.2.2.2.2.2.2⟩
  obtain ⟨A1, cc, hR1, -, -⟩ := hS1
  have x0 : w1.cell? ⟨w.heap.size, 0, none⟩ = some (.int .i64 0) := cell_of_row _ _ 0 _ _ _ hC1'
  have r1 : w1.cell? ⟨R, 1, none⟩ = some (.int .i64 0) := cell_of_row _ _ 1 _ _ _ hR1
  have g0 := free_of_cells hC1' 0
  have HS2 := Aside0.mk (rs_far HS1.out hC1 hne 0 (.int .i64 6))
  have hC2 : w1.heap[w.heap.size]? = _ := hC1'
  have HC2 := Aside0.mk (show CS w.heap.size (w1.setCell ⟨w.heap.size, 0, none⟩ (.int .i64 6)) ⟨6, E0, 0, 0, 0, 0⟩ from cells_set hC1' rfl)
  have HB2 := Aside0.mk (Below.setCell (p := ⟨w.heap.size, 0, none⟩) HB1.out HBW.out (.int .i64 6))
  have HK2 := Aside0.mk (keep_setC HK1.out 0 (.int .i64 6))
  clear hl hr hB1 hK1 hC1 hC1' hC2 hR1 HY hgl
  have HV := Aside0.mk (show refC t 6 3 = ⟨6, E0, 0, x, y, z⟩ ∧ refN t 3 = (z, b1, e1) from ⟨by show (⟨_, _, _, (refN t 1).1, (refN t 2).1, (refN t 3).1⟩ : S35) = _; rw [hv1, hv2, hv3], hv3⟩)
  clear hv1 hv2 hv3
  go_wp2_with fail
  refine (ref_calls HS2.out HC2.out hne HBY.out (by have := HM.out; omega) HB2.out HBR.out HBW.out).mono ?_
  rw [HV.out.1, HV.out.2]
  rintro y' w4 ⟨rfl, hS4, hC4, hB4, hK4⟩
  have hC4' : w4.heap[w.heap.size]? = some (.cells #[.int .i64 6, .string E0, .int .i64 0, .int .i64 x, .int .i64 y, .int .i64 z] 35 (0, 0)) := hC4
  have y0 : w4.cell? ⟨w.heap.size, 0, none⟩ = some (.int .i64 6) := cell_of_row _ _ 0 _ _ _ hC4'
  have y1 : w4.cell? ⟨w.heap.size, 1, none⟩ = some (.string E0) := cell_of_row _ _ 1 _ _ _ hC4'
  have y2 : w4.cell? ⟨w.heap.size, 2, none⟩ = some (.int .i64 0) := cell_of_row _ _ 2 _ _ _ hC4'
  have y3 : w4.cell? ⟨w.heap.size, 3, none⟩ = some (.int .i64 x) := cell_of_row _ _ 3 _ _ _ hC4'
  have y4 : w4.cell? ⟨w.heap.size, 4, none⟩ = some (.int .i64 y) := cell_of_row _ _ 4 _ _ _ hC4'
  have y5 : w4.cell? ⟨w.heap.size, 5, none⟩ = some (.int .i64 z) := cell_of_row _ _ 5 _ _ _ hC4'
  have k0 := free_of_cells hC4' 0
  have k1 := free_of_cells hC4' 1
  have k2 := free_of_cells hC4' 2
  have k3 := free_of_cells hC4' 3
  have k4 := free_of_cells hC4' 4
  have k5 := free_of_cells hC4' 5
  have HE := Aside0.mk (one_end hS4 hC4 hne hB4 HBW.out (keep_trans HK2.out hK4) (.int .i64 6) (.string E0) (.int .i64 0) (.int .i64 x) (.int .i64 y) (.int .i64 z))
  have HC6 := Aside0.mk (cs_six hC4 ⟨6, E0, 0, x, y, z⟩)
  clear hS4 hC4 hB4 hK4 hC4'
  go_wp2
  refine bodyPost_ret (results_cell_row rfl _ _ _ _ _ _ _ rfl HC6.out hu35 rfl size35) rfl ?_
  exact ⟨rfl, HE.out.1, HE.out.2.1, HE.out.2.2⟩
set_option maxHeartbeats 4000000 in
set_option maxRecDepth 100000 in
theorem one_bad0 {t : List Int}  {base R : Nat} {w0 w : World} (hS : RS base R w (0 :: t) 0) (hby : Bytes t) (hm : t.length ≤ 35184372080000) (hRd : Rds w) (hB : Below base w0 w) (hbr : base ≤ R) (h0 : 0 < base) :
    Calls Tryd.prog 36 #[.pointer (some ⟨R, 0, none⟩)] w (OnePost base R w0 w ⟨0, E0, 0, 0, 0, 0⟩ t 4) := by
  have hRl := rs_lt hS
  have hu35 := Tryd.underlying35
  have hnn := nn_nil
  have hY := bytes_calls (n := 1) (e := 0) (b0 := [0]) (b1 := t) (e1 := 0) (rs_below hS (below_alloc (Below.refl _ _) (.cells #[.int .i64 0, .string ⟨#[]⟩, .int .i64 0, .int .i64 0, .int .i64 0, .int .i64 0] 35))) (by rw [List.length_cons]; omega) (by omega) (Below.alloc hB (by omega) _) hbr (bytes_one _ _)
  have HY := Aside0.mk hY
  have hne : w.heap.size ≠ R := by omega
  have hne2 : R ≠ w.heap.size := by omega
  have hg0 : w.heap.size ≠ 0 := by omega
  have hg1 : 0 ≠ w.heap.size := by omega
  have hR0 : R ≠ 0 := by omega
  have HBW := Aside0.mk (show base ≤ w.heap.size by omega)
  have HBR := Aside0.mk hbr
  have HRd := Aside0.mk hRd
  have HBY := Aside0.mk hby
  have HM := Aside0.mk hm
  clear hS hB hbr hY hby hm hRd h0
  unfold OnePost agg35
  go_enter Tryd.func36, Tryd.ntmps36
  go_wp2_with fail
  refine HY.out.mono ?_
  rintro y w1 ⟨A, c, rfl, hl, hr, hS1, hB1, hK1⟩
  obtain ⟨ad, rfl, hk⟩ := row_one hr
  have hC1 := cs_keep (cs_new w) hK1 hne
  have hC1' : w1.heap[w.heap.size]? = some (.cells #[.int .i64 0, .string E0, .int .i64 0, .int .i64 0, .int .i64 0, .int .i64 0] 35 (0, 0)) := hC1
  have HS1 := Aside0.mk hS1
  have HC1 := Aside0.mk hC1
  have HB1 := Aside0.mk hB1
  have HK1 := Aside0.mk (keep_weak hK1 w.heap.size)
  have hgl := HRd.out.lt
  obtain ⟨t0, t1, t2, t3, t4, t5, t6⟩ : Rds w1 := by
    have h2 : w1.heap[0]? = w.heap[0]? := (hK1.2 _ (by rw [World.size_alloc]; omega) (fun e => hR0 e.symm) (by simp)).trans (heap_alloc_old _ _ hgl)
    have hc : ∀ (j : Nat) (v : Value), w.cell? ⟨0, j, none⟩ = some v → w1.cell? ⟨0, j, none⟩ = some v := fun j v hv => (World.cell?_of_block (a := ⟨0, j, none⟩) h2).trans hv
    have h := HRd.out
    exact ⟨hc _ _ h.1, hc _ _ h.2.1, hc _ _ h.2.2.1, hc _ _ h.2.2.2.1, hc _ _ h.2.2.2.2.1, hc _ _ h.2.2.2.2.2.1, hc _ _ h.2.2.2.2.2.2⟩
  obtain ⟨A1, cc, hR1, -, -⟩ := hS1
  have x0 : w1.cell? ⟨w.heap.size, 0, none⟩ = some (.int .i64 0) := cell_of_row _ _ 0 _ _ _ hC1'
  have r1 : w1.cell? ⟨R, 1, none⟩ = some (.int .i64 0) := cell_of_row _ _ 1 _ _ _ hR1
  have g0 := free_of_cells hC1' 0
  have HS2 := Aside0.mk (rs_far HS1.out hC1 hne 0 (.int .i64 0))
  have hC2 : w1.heap[w.heap.size]? = _ := hC1'
  have HC2 := Aside0.mk (show CS w.heap.size (w1.setCell ⟨w.heap.size, 0, none⟩ (.int .i64 0)) ⟨0, E0, 0, 0, 0, 0⟩ from cells_set hC1' rfl)
  have HB2 := Aside0.mk (Below.setCell (p := ⟨w.heap.size, 0, none⟩) HB1.out HBW.out (.int .i64 0))
  have HK2 := Aside0.mk (keep_setC HK1.out 0 (.int .i64 0))
  clear hl hr hB1 hK1 hC1 hC1' hC2 hR1 HY hgl
  have hC4 := cs_far HC2.out hne 1 (.int .i64 4)
  have HE := Aside0.mk (one_end (rs_err HS2.out 4) hC4 hne (Below.setCell (p := ⟨R, 1, none⟩) HB2.out HBR.out (.int .i64 4)) HBW.out (KeepBut.set_ HK2.out 1 (.int .i64 4)) (.int .i64 0) (.string E0) (.int .i64 0) (.int .i64 0) (.int .i64 0) (.int .i64 0))
  have HC6 := Aside0.mk (cs_six hC4 ⟨0, E0, 0, 0, 0, 0⟩)
  have hR4 := HS1.out
  obtain ⟨A4, c4, hR4, -, -⟩ := hR4
  have z1 := free_of_cells hR4 1
  have hC5 := HC1.out
  have hC5' : w1.heap[w.heap.size]? = some (.cells #[.int .i64 0, .string E0, .int .i64 0, .int .i64 0, .int .i64 0, .int .i64 0] 35 (0, 0)) := hC5
  have y1 : w1.cell? ⟨w.heap.size, 1, none⟩ = some (.string E0) := cell_of_row _ _ 1 _ _ _ hC5'
  have y2 : w1.cell? ⟨w.heap.size, 2, none⟩ = some (.int .i64 0) := cell_of_row _ _ 2 _ _ _ hC5'
  have y3 : w1.cell? ⟨w.heap.size, 3, none⟩ = some (.int .i64 0) := cell_of_row _ _ 3 _ _ _ hC5'
  have y4 : w1.cell? ⟨w.heap.size, 4, none⟩ = some (.int .i64 0) := cell_of_row _ _ 4 _ _ _ hC5'
  have y5 : w1.cell? ⟨w.heap.size, 5, none⟩ = some (.int .i64 0) := cell_of_row _ _ 5 _ _ _ hC5'
  have k1 := free_of_cells hC5' 1
  have k2 := free_of_cells hC5' 2
  have k3 := free_of_cells hC5' 3
  have k4 := free_of_cells hC5' 4
  have k5 := free_of_cells hC5' 5
  clear hC4 hR4 hC5 hC5'
  go_wp2
  refine bodyPost_ret (results_cell_row rfl _ _ _ _ _ _ _ rfl HC6.out hu35 rfl size35) rfl ?_
  exact ⟨rfl, HE.out.1, HE.out.2.1, HE.out.2.2⟩
set_option maxHeartbeats 4000000 in
set_option maxRecDepth 100000 in
theorem one_bad7 {k : Int} {t : List Int} (h7 : 7 ≤ k) (h255 : k ≤ 255) {base R : Nat} {w0 w : World} (hS : RS base R w (k :: t) 0) (hby : Bytes t) (hm : t.length ≤ 35184372080000) (hRd : Rds w) (hB : Below base w0 w) (hbr : base ≤ R) (h0 : 0 < base) :
    Calls Tryd.prog 36 #[.pointer (some ⟨R, 0, none⟩)] w (OnePost base R w0 w ⟨k, E0, 0, 0, 0, 0⟩ t 4) := by
  have hRl := rs_lt hS
  have hu35 := Tryd.underlying35
  have hw64 : wrap64 k = k := wrap64_id _ (by omega) (by omega)
  have h6 : (6 : Int) < k := by omega
  have hnn := nn_
  have hY := bytes_calls (n := 1) (e := 0) (b0 := [k]) (b1 := t) (e1 := 0) (rs_below hS (below_alloc (Below.refl _ _) (.cells #[.int .i64 0, .string ⟨#[]⟩, .int .i64 0, .int .i64 0, .int .i64 0, .int .i64 0] 35))) (by rw [List.length_cons]; omega) (by omega) (Below.alloc hB (by omega) _) hbr (bytes_one _ _)
  have HY := Aside0.mk hY
  have hne : w.heap.size ≠ R := by omega
  have hne2 : R ≠ w.heap.size := by omega
  have hg0 : w.heap.size ≠ 0 := by omega
  have hg1 : 0 ≠ w.heap.size := by omega
  have hR0 : R ≠ 0 := by omega
  have HBW := Aside0.mk (show base ≤ w.heap.size by omega)
  have HBR := Aside0.mk hbr
  have HRd := Aside0.mk hRd
  have HBY := Aside0.mk hby
  have HM := Aside0.mk hm
  clear hS hB hbr hY hby hm hRd h0
  unfold OnePost agg35
  go_enter Tryd.func36, Tryd.ntmps36
  go_wp2_with fail
  refine HY.out.mono ?_
  rintro y w1 ⟨A, c, rfl, hl, hr, hS1, hB1, hK1⟩
  obtain ⟨ad, rfl, hk⟩ := row_one hr
  have hC1 := cs_keep (cs_new w) hK1 hne
  have hC1' : w1.heap[w.heap.size]? = some (.cells #[.int .i64 0, .string E0, .int .i64 0, .int .i64 0, .int .i64 0, .int .i64 0] 35 (0, 0)) := hC1
  have HS1 := Aside0.mk hS1
  have HC1 := Aside0.mk hC1
  have HB1 := Aside0.mk hB1
  have HK1 := Aside0.mk (keep_weak hK1 w.heap.size)
  have hgl := HRd.out.lt
  obtain ⟨t0, t1, t2, t3, t4, t5, t6⟩ : Rds w1 := by
    have h2 : w1.heap[0]? = w.heap[0]? := (hK1.2 _ (by rw [World.size_alloc]; omega) (fun e => hR0 e.symm) (by simp)).trans (heap_alloc_old _ _ hgl)
    have hc : ∀ (j : Nat) (v : Value), w.cell? ⟨0, j, none⟩ = some v → w1.cell? ⟨0, j, none⟩ = some v := fun j v hv => (World.cell?_of_block (a := ⟨0, j, none⟩) h2).trans hv
    have h := HRd.out
    exact ⟨hc _ _ h.1, hc _ _ h.2.1, hc _ _ h.2.2.1, hc _ _ h.2.2.2.1, hc _ _ h.2.2.2.2.1, hc _ _ h.2.2.2.2.2.1, hc _ _ h.2.2.2.2.2.2⟩
  obtain ⟨A1, cc, hR1, -, -⟩ := hS1
  have x0 : w1.cell? ⟨w.heap.size, 0, none⟩ = some (.int .i64 0) := cell_of_row _ _ 0 _ _ _ hC1'
  have r1 : w1.cell? ⟨R, 1, none⟩ = some (.int .i64 0) := cell_of_row _ _ 1 _ _ _ hR1
  have g0 := free_of_cells hC1' 0
  have HS2 := Aside0.mk (rs_far HS1.out hC1 hne 0 (.int .i64 k))
  have hC2 : w1.heap[w.heap.size]? = _ := hC1'
  have HC2 := Aside0.mk (show CS w.heap.size (w1.setCell ⟨w.heap.size, 0, none⟩ (.int .i64 k)) ⟨k, E0, 0, 0, 0, 0⟩ from cells_set hC1' rfl)
  have HB2 := Aside0.mk (Below.setCell (p := ⟨w.heap.size, 0, none⟩) HB1.out HBW.out (.int .i64 k))
  have HK2 := Aside0.mk (keep_setC HK1.out 0 (.int .i64 k))
  clear hl hr hB1 hK1 hC1 hC1' hC2 hR1 HY hgl
  have hC4 := cs_far HC2.out hne 1 (.int .i64 4)
  have HE := Aside0.mk (one_end (rs_err HS2.out 4) hC4 hne (Below.setCell (p := ⟨R, 1, none⟩) HB2.out HBR.out (.int .i64 4)) HBW.out (KeepBut.set_ HK2.out 1 (.int .i64 4)) (.int .i64 k) (.string E0) (.int .i64 0) (.int .i64 0) (.int .i64 0) (.int .i64 0))
  have HC6 := Aside0.mk (cs_six hC4 ⟨k, E0, 0, 0, 0, 0⟩)
  have hR4 := HS1.out
  obtain ⟨A4, c4, hR4, -, -⟩ := hR4
  have z1 := free_of_cells hR4 1
  have hC5 := HC1.out
  have hC5' : w1.heap[w.heap.size]? = some (.cells #[.int .i64 0, .string E0, .int .i64 0, .int .i64 0, .int .i64 0, .int .i64 0] 35 (0, 0)) := hC5
  have y1 : w1.cell? ⟨w.heap.size, 1, none⟩ = some (.string E0) := cell_of_row _ _ 1 _ _ _ hC5'
  have y2 : w1.cell? ⟨w.heap.size, 2, none⟩ = some (.int .i64 0) := cell_of_row _ _ 2 _ _ _ hC5'
  have y3 : w1.cell? ⟨w.heap.size, 3, none⟩ = some (.int .i64 0) := cell_of_row _ _ 3 _ _ _ hC5'
  have y4 : w1.cell? ⟨w.heap.size, 4, none⟩ = some (.int .i64 0) := cell_of_row _ _ 4 _ _ _ hC5'
  have y5 : w1.cell? ⟨w.heap.size, 5, none⟩ = some (.int .i64 0) := cell_of_row _ _ 5 _ _ _ hC5'
  have k1 := free_of_cells hC5' 1
  have k2 := free_of_cells hC5' 2
  have k3 := free_of_cells hC5' 3
  have k4 := free_of_cells hC5' 4
  have k5 := free_of_cells hC5' 5
  clear hC4 hR4 hC5 hC5'
  go_wp2
  refine bodyPost_ret (results_cell_row rfl _ _ _ _ _ _ _ rfl HC6.out hu35 rfl size35) rfl ?_
  exact ⟨rfl, HE.out.1, HE.out.2.1, HE.out.2.2⟩
/-- one constant, read -/
theorem one_calls {b : List Int} {base R : Nat} {w0 w : World} (hS : RS base R w b 0) (hby : Bytes b) (hm : b.length ≤ 35184372080000) (hRd : Rds w) (hB : Below base w0 w) (hbr : base ≤ R) (h0 : 0 < base) :
    Calls Tryd.prog 36 #[.pointer (some ⟨R, 0, none⟩)] w (OnePost base R w0 w (oneL b).1 (oneL b).2.1 (oneL b).2.2) := by
  cases b with
  | nil => exact one_nil hS hB hbr
  | cons k t =>
    have ht : Bytes t := fun x hx => hby x (List.mem_cons_of_mem _ hx)
    have hk := hby k List.mem_cons_self
    have hm' : t.length ≤ 35184372080000 := by rw [List.length_cons] at hm; omega
    rcases (show k = 0 ∨ k = 1 ∨ k = 2 ∨ k = 3 ∨ k = 4 ∨ k = 5 ∨ k = 6 ∨ 7 ≤ k by omega) with rfl | rfl | rfl | rfl | rfl | rfl | rfl | h7
    · rw [oneL_7 0 (by omega)]; exact one_bad0 hS ht hm' hRd hB hbr h0
    · rw [oneL_1]
      obtain ⟨s, b1, e1, hv⟩ : ∃ s b1 e1, textL t = (s, b1, e1) := ⟨_, _, _, rfl⟩
      rw [hv]; exact one_text hv hS ht hm' hRd hB hbr h0
    · rw [oneL_2 2 (.inl rfl)]
      obtain ⟨s, b1, e1, hv⟩ : ∃ s b1 e1, takeS t = (s, b1, e1) := ⟨_, _, _, rfl⟩
      rw [hv]; exact one_num2 hv hS ht hm' hRd hB hbr h0
    · rw [oneL_2 3 (.inr rfl)]
      obtain ⟨s, b1, e1, hv⟩ : ∃ s b1 e1, takeS t = (s, b1, e1) := ⟨_, _, _, rfl⟩
      rw [hv]; exact one_num3 hv hS ht hm' hRd hB hbr h0
    · rw [oneL_4]
      obtain ⟨s, b1, e1, hv⟩ : ∃ s b1 e1, takeU t = (s, b1, e1) := ⟨_, _, _, rfl⟩
      rw [hv]; exact one_class hv hS ht hm' hRd hB hbr h0
    · rw [oneL_5 5 (.inl rfl), refL1_eq]
      obtain ⟨z, b1, e1, hv⟩ : ∃ z b1 e1, refN t 3 = (z, b1, e1) := ⟨_, _, _, rfl⟩
      rw [show refC t 5 3 = ⟨5, E0, 0, (refN t 1).1, (refN t 2).1, (refN t 3).1⟩ from rfl, hv]
      exact one_ref5 rfl rfl hv hS ht hm' hRd hB hbr h0
    · rw [oneL_5 6 (.inr rfl), refL1_eq]
      obtain ⟨z, b1, e1, hv⟩ : ∃ z b1 e1, refN t 3 = (z, b1, e1) := ⟨_, _, _, rfl⟩
      rw [show refC t 6 3 = ⟨6, E0, 0, (refN t 1).1, (refN t 2).1, (refN t 3).1⟩ from rfl, hv]
      exact one_ref6 rfl rfl hv hS ht hm' hRd hB hbr h0
    · rw [oneL_7 k (by omega)]; exact one_bad7 h7 hk.2 hS ht hm' hRd hB hbr h0
end Go.Proofs.YtkhigagkgpfpfaaDoor.Ext

/- The reference's reader of package pool, walked: one constant. -/
import Derived.Test.YtkhigagkgpfpfaaDoorPoolRef
set_option linter.unusedVariables false
set_option linter.unusedSimpArgs false
namespace Go.Proofs.YtkhigagkgpfpfaaDoor.Ext.Rf
open Go.RowKit Go.Lib Go.Proofs.YtkhigagkgpfpfaaDoorW.PrintWords Go.Proofs.YtkhigagkgpfpfaaDoorW.PrintLast Go.Proofs.YtkhigagkgpfpfaaDoorW.PrintMore Go.Proofs.YtkhigagkgpfpfaaDoor.PLeb
attribute [local go_sem] max2_int min2_int max_two min_two max_three min_three max_four min_four

def OnePost (base R : Nat) (w0 w : World) (x : S35) (b : List Int) (e : Int) (y : Ending) (w' : World) : Prop :=
  y = .returned (agg35 x) ∧ RS base R w' b e ∧ Below base w0 w' ∧ KeepBut w w' R none
theorem kb_new {w W : World} {R g : Nat} (h : KeepBut w W R none) (hg : w.heap.size ≤ g) (j : Nat) (u : Value) : KeepBut w (W.setCell ⟨g, j, none⟩ u) R none :=
  ⟨by simpa [World.setCell] using h.1, fun i hi hR hn => (Below.heap_setCell W ⟨g, j, none⟩ u i (by show i ≠ g; omega)).trans (h.2 i hi hR hn)⟩
theorem kb_six {w W : World} {R g : Nat} (h : KeepBut w W R none) (hg : w.heap.size ≤ g) (v0 v1 v2 v3 v4 v5 : Value) : KeepBut w (six W g v0 v1 v2 v3 v4 v5) R none := kb_new (kb_new (kb_new (kb_new (kb_new (kb_new h hg 0 v0) hg 1 v1) hg 2 v2) hg 3 v3) hg 4 v4) hg 5 v5
theorem kb_alloc {w W : World} {R : Nat} (h : KeepBut w W R none) (o : Obj) : KeepBut w (W.alloc o) R none := h.trans (KeepBut.of_below (below_alloc (Below.refl _ _) o) R none) (Or.inl rfl)
theorem cs_far6 {w : World} {C g : Nat} {x : S35} (h : CS C w x) (hne : C ≠ g) (v0 v1 v2 v3 v4 v5 : Value) : CS C (six w g v0 v1 v2 v3 v4 v5) x := cs_far (cs_far (cs_far (cs_far (cs_far (cs_far h hne 0 v0) hne 1 v1) hne 2 v2) hne 3 v3) hne 4 v4) hne 5 v5
/-- the end of reading one -/
theorem one_end {base R C2 C3 : Nat} {w0 w w4 : World} {b : List Int} {e : Int} {x y : S35} (hS : RS base R w4 b e) (hC3 : CS C3 w4 x) (hC2 : CS C2 w4 y) (h2 : C2 ≠ R) (h3 : C3 ≠ R) (hB : Below base w0 w4) (hb2 : base ≤ C2) (hw2 : w.heap.size ≤ C2) (hK : KeepBut w w4 R none) (z : S35) :
    RS base R (six w4 C2 (.int .i64 z.f0) (.string z.f1) (.int .i64 z.f2) (.int .i64 z.f3) (.int .i64 z.f4) (.int .i64 z.f5)) b e ∧ Below base w0 (six w4 C2 (.int .i64 z.f0) (.string z.f1) (.int .i64 z.f2) (.int .i64 z.f3) (.int .i64 z.f4) (.int .i64 z.f5)) ∧ KeepBut w (six w4 C2 (.int .i64 z.f0) (.string z.f1) (.int .i64 z.f2) (.int .i64 z.f3) (.int .i64 z.f4) (.int .i64 z.f5)) R none ∧ CS C2 (six w4 C2 (.int .i64 z.f0) (.string z.f1) (.int .i64 z.f2) (.int .i64 z.f3) (.int .i64 z.f4) (.int .i64 z.f5)) z :=
  ⟨rs_keepC hS hC2 h2 (six_keep _ _ _ _ _ _ _ _), six_below hB hb2 _ _ _ _ _ _, kb_six hK hw2 _ _ _ _ _ _, cs_six hC2 z⟩
theorem numk {b : List Int} {e : Int} (hb : Bytes b) : Bytes (numL takeU b e).2.1 ∧ (numL takeU b e).2.1.length ≤ b.length := by
  unfold numL
  split
  · exact ⟨(takeU_keep hb).1, (takeU_keep hb).2.1⟩
  · exact ⟨hb, Nat.le_refl _⟩
set_option maxHeartbeats 1000000 in
set_option maxRecDepth 100000 in
theorem one_nil {base R : Nat} {w0 w : World} (hS : RS base R w [] 0) (hB : Below base w0 w) (hbr : base ≤ R) :
    Calls Tryd.prog 39 #[.pointer (some ⟨R, 0, none⟩)] w (OnePost base R w0 w ⟨0, E0, 0, 0, 0, 0⟩ [] 3) := by
  have hRl := rs_lt hS
  have hu35 := Tryd.underlying35
  have hne : w.heap.size ≠ R := by omega
  have hne2 : R ≠ w.heap.size := by omega
  have hsz : (w.setCell ⟨R, 1, none⟩ (.int .i64 3)).heap.size = w.heap.size := World.size_setCell ..
  have HP := Aside0.mk (rs_below (rs_err hS 3) (below_alloc (Below.refl _ _) (.cells #[.int .i64 0, .string ⟨#[]⟩, .int .i64 0, .int .i64 0, .int .i64 0, .int .i64 0] 35)))
  have HB1 := Aside0.mk (Below.alloc (Below.setCell (p := ⟨R, 1, none⟩) hB hbr (.int .i64 3)) (by rw [hsz]; omega) (.cells #[.int .i64 0, .string ⟨#[]⟩, .int .i64 0, .int .i64 0, .int .i64 0, .int .i64 0] 35))
  have HK := Aside0.mk (kb_alloc (KeepBut.set_ (KeepBut.refl w R none) 1 (.int .i64 3)) (.cells #[.int .i64 0, .string ⟨#[]⟩, .int .i64 0, .int .i64 0, .int .i64 0, .int .i64 0] 35))
  have HC2 := Aside0.mk (show CS w.heap.size ((w.setCell ⟨R, 1, none⟩ (.int .i64 3)).alloc (.cells #[.int .i64 0, .string ⟨#[]⟩, .int .i64 0, .int .i64 0, .int .i64 0, .int .i64 0] 35)) ⟨0, E0, 0, 0, 0, 0⟩ from hsz ▸ heap_alloc_new (w.setCell ⟨R, 1, none⟩ (.int .i64 3)) (.cells #[.int .i64 0, .string ⟨#[]⟩, .int .i64 0, .int .i64 0, .int .i64 0, .int .i64 0] 35))
  obtain ⟨A, c, hR, hl, hC, -⟩ := hS
  have c0 : w.cell? ⟨R, 0, none⟩ = some (.slice A 0 c) := cell_of_row _ _ 0 _ _ _ hR
  have c1 : w.cell? ⟨R, 1, none⟩ = some (.int .i64 0) := cell_of_row _ _ 1 _ _ _ hR
  have f1 := free_of_cells hR 1
  clear hB hbr hR hl hC hsz
  unfold OnePost agg35
  go_enter Tryd.func39, Tryd.ntmps39
  go_wp2
  refine bodyPost_ret (results_cell_row rfl _ _ _ _ _ _ _ rfl HC2.out hu35 rfl size35) rfl ?_
  exact ⟨rfl, HP.out, HB1.out, HK.out⟩
set_option maxHeartbeats 2000000 in
set_option maxRecDepth 100000 in
theorem one_text {t : List Int} {s : ByteArray} {b1 : List Int} {e1 : Int} (hv : textL t = (s, b1, e1)) {base R : Nat} {w0 w : World} (hS : RS base R w (1 :: t) 0) (hby : Bytes t) (hm : t.length ≤ 35184372080000) (hB : Below base w0 w) (hbr : base ≤ R) :
    Calls Tryd.prog 39 #[.pointer (some ⟨R, 0, none⟩)] w (OnePost base R w0 w ⟨1, s, 0, 0, 0, 0⟩ b1 e1) := by
  have hRl := rs_lt hS
  have hu35 := Tryd.underlying35
  have hne : w.heap.size ≠ R := by omega
  have hne2 : R ≠ w.heap.size := by omega
  have hne3 : w.heap.size + 1 ≠ R := by omega
  have hne4 : R ≠ w.heap.size + 1 := by omega
  have hne5 : w.heap.size ≠ w.heap.size + 1 := by omega
  have hne6 : w.heap.size + 1 ≠ w.heap.size := by omega
  obtain ⟨A, c, hR, hl, hC, hTB⟩ := hS
  obtain ⟨ad, cc, rfl, -, hk, hcc⟩ := Kd.C_get hC 0 0 (by omega) (by rw [List.length_cons]; omega)
  have hk' : cc = [.int .u8 (1)] := hk
  subst hk'
  have hcell : w.cell? ad = some (.int .u8 (1)) := hcc 0 _ rfl
  have hadl : ad.block < w.heap.size := World.block_lt_of_cell? w ad hcell
  have hadn : ad.block ≠ w.heap.size := by omega
  have hadn1 : ad.block ≠ w.heap.size + 1 := by omega
  have hcellA : (w.alloc (.cells #[.int .i64 0, .string ⟨#[]⟩, .int .i64 0, .int .i64 0, .int .i64 0, .int .i64 0] 35)).cell? ad = some (.int .u8 (1)) := (World.cell?_alloc_lt _ _ _ hadl).trans hcell
  obtain ⟨A', s1, s2, s4⟩ := bslice_from (1 :: t) (some ad) c 1 (by rw [List.length_cons]; omega) hl
  have hlt : t.length + 1 ≤ c := by rw [List.length_cons] at hl; exact hl
  obtain ⟨n, hn⟩ : ∃ n, (1 :: t).length = n := ⟨_, rfl⟩
  have hnt : n - 1 = t.length := by rw [← hn, List.length_cons]; omega
  have hn0 : 0 < n := by rw [← hn, List.length_cons]; omega
  have hrow : RS base R (w.setCell ⟨R, 0, none⟩ (.slice A' (n - 1) (c - 1))) t 0 := by
    have h := rs_row (b := t) hR (by omega : t.length ≤ c - 1) (s2 w hC) (TB.cut hTB (by rw [List.length_cons]; omega) s4)
    rw [hnt]; exact h
  rw [hn] at s1 hR
  have s1' : ∀ W : World, (Instr.slice 22 (.slice (some ad) n c) (some (.int .i64 1)) none none).run Tryd.prog W = .ok (.slice A' (n - 1) (c - 1)) W := s1
  have q0 : ((n : Int) == 0) = false := beq_eq_false_iff_ne.2 (by omega)
  have q0' : ¬ n = 0 := by omega
  have hn0' : (0 : Int) < (n : Int) := by omega
  have c0 : w.cell? ⟨R, 0, none⟩ = some (.slice (some ad) n c) := cell_of_row _ _ 0 _ _ _ hR
  have c1 : w.cell? ⟨R, 1, none⟩ = some (.int .i64 0) := cell_of_row _ _ 1 _ _ _ hR
  have f0 := free_of_cells hR 0
  have hsz : (w.setCell ⟨R, 0, none⟩ (.slice A' (n - 1) (c - 1))).heap.size = w.heap.size := World.size_setCell ..
  have hsz2 : ((w.setCell ⟨R, 0, none⟩ (.slice A' (n - 1) (c - 1))).alloc (.cells #[.int .i64 0, .string ⟨#[]⟩, .int .i64 0, .int .i64 0, .int .i64 0, .int .i64 0] 35)).heap.size = w.heap.size + 1 := by rw [World.size_alloc, hsz]
  have HS7 := Aside0.mk (rs_below hrow (below_alloc (below_alloc (Below.refl _ _) (.cells #[.int .i64 0, .string ⟨#[]⟩, .int .i64 0, .int .i64 0, .int .i64 0, .int .i64 0] 35)) (.cells #[.int .i64 1, .string ⟨#[]⟩, .int .i64 0, .int .i64 0, .int .i64 0, .int .i64 0] 35)))
  have HB7 := Aside0.mk (Below.alloc (Below.alloc (Below.setCell (p := ⟨R, 0, none⟩) hB hbr (.slice A' (n - 1) (c - 1))) (by rw [hsz]; omega) (.cells #[.int .i64 0, .string ⟨#[]⟩, .int .i64 0, .int .i64 0, .int .i64 0, .int .i64 0] 35)) (by rw [hsz2]; omega) (.cells #[.int .i64 1, .string ⟨#[]⟩, .int .i64 0, .int .i64 0, .int .i64 0, .int .i64 0] 35))
  have HK7 := Aside0.mk (kb_alloc (kb_alloc (KeepBut.set_ (KeepBut.refl w R none) 0 (.slice A' (n - 1) (c - 1))) (.cells #[.int .i64 0, .string ⟨#[]⟩, .int .i64 0, .int .i64 0, .int .i64 0, .int .i64 0] 35)) (.cells #[.int .i64 1, .string ⟨#[]⟩, .int .i64 0, .int .i64 0, .int .i64 0, .int .i64 0] 35))
  have HC37 := Aside0.mk (show CS (w.heap.size + 1) (((w.setCell ⟨R, 0, none⟩ (.slice A' (n - 1) (c - 1))).alloc (.cells #[.int .i64 0, .string ⟨#[]⟩, .int .i64 0, .int .i64 0, .int .i64 0, .int .i64 0] 35)).alloc (.cells #[.int .i64 1, .string ⟨#[]⟩, .int .i64 0, .int .i64 0, .int .i64 0, .int .i64 0] 35)) ⟨1, E0, 0, 0, 0, 0⟩ from hsz2 ▸ heap_alloc_new ((w.setCell ⟨R, 0, none⟩ (.slice A' (n - 1) (c - 1))).alloc (.cells #[.int .i64 0, .string ⟨#[]⟩, .int .i64 0, .int .i64 0, .int .i64 0, .int .i64 0] 35)) (.cells #[.int .i64 1, .string ⟨#[]⟩, .int .i64 0, .int .i64 0, .int .i64 0, .int .i64 0] 35))
  have HC27 := Aside0.mk (show CS w.heap.size (((w.setCell ⟨R, 0, none⟩ (.slice A' (n - 1) (c - 1))).alloc (.cells #[.int .i64 0, .string ⟨#[]⟩, .int .i64 0, .int .i64 0, .int .i64 0, .int .i64 0] 35)).alloc (.cells #[.int .i64 1, .string ⟨#[]⟩, .int .i64 0, .int .i64 0, .int .i64 0, .int .i64 0] 35)) ⟨0, E0, 0, 0, 0, 0⟩ from (heap_alloc_old _ _ (by rw [hsz2]; omega)).trans (hsz ▸ heap_alloc_new (w.setCell ⟨R, 0, none⟩ (.slice A' (n - 1) (c - 1))) (.cells #[.int .i64 0, .string ⟨#[]⟩, .int .i64 0, .int .i64 0, .int .i64 0, .int .i64 0] 35)))
  have HBW := Aside0.mk (show base ≤ w.heap.size by omega)
  have HBR := Aside0.mk hbr
  have HBY := Aside0.mk hby
  have HM := Aside0.mk hm
  have HV := Aside0.mk hv
  clear hv
  clear hB hbr hby hm hl hC hTB hcc hk s1 s2 s4 hlt hn hnt hrow hsz hsz2
  unfold OnePost agg35
  go_enter Tryd.func39, Tryd.ntmps39
  go_wp2_with fail
  refine (text_calls HS7.out HBY.out (by have := HM.out; omega) HB7.out HBR.out HV.out).mono ?_
  rintro yy w4 ⟨rfl, hS4, hB4, hK4⟩
  have hC34 := cs_keep HC37.out hK4 hne3
  have hC3b : w4.heap[w.heap.size + 1]? = some (.cells #[.int .i64 1, .string E0, .int .i64 0, .int .i64 0, .int .i64 0, .int .i64 0] 35 (0, 0)) := hC34
  have x1 := (cell_of_row _ _ 1 _ _ _ hC3b : w4.cell? ⟨w.heap.size + 1, 1, none⟩ = some (.string E0))
  have g1 := free_of_cells hC3b 1
  have HC24 := Aside0.mk (cs_far (cs_keep HC27.out hK4 hne) hne5 1 (.string s))
  have HS4 := Aside0.mk (rs_far hS4 hC34 hne3 1 (.string s))
  have HC34 := Aside0.mk (show CS (w.heap.size + 1) (w4.setCell ⟨w.heap.size + 1, 1, none⟩ (.string s)) ⟨1, s, 0, 0, 0, 0⟩ from cs_set1 hC34 _)
  have HB4 := Aside0.mk (Below.setCell (p := ⟨w.heap.size + 1, 1, none⟩) hB4 (Nat.le_succ_of_le HBW.out) (.string s))
  have HK4 := Aside0.mk (kb_new (g := w.heap.size + 1) (KeepBut.trans HK7.out hK4 (Or.inl rfl)) (by omega) 1 (.string s))
  have x0 := (cell_of_row _ _ 0 _ _ _ hC3b : w4.cell? ⟨w.heap.size + 1, 0, none⟩ = some (.int .i64 1))
  have x2 := (cell_of_row _ _ 2 _ _ _ hC3b : w4.cell? ⟨w.heap.size + 1, 2, none⟩ = some (.int .i64 0))
  have x3 := (cell_of_row _ _ 3 _ _ _ hC3b : w4.cell? ⟨w.heap.size + 1, 3, none⟩ = some (.int .i64 0))
  have x4 := (cell_of_row _ _ 4 _ _ _ hC3b : w4.cell? ⟨w.heap.size + 1, 4, none⟩ = some (.int .i64 0))
  have x5 := (cell_of_row _ _ 5 _ _ _ hC3b : w4.cell? ⟨w.heap.size + 1, 5, none⟩ = some (.int .i64 0))
  have hC2b : w4.heap[w.heap.size]? = some (.cells #[.int .i64 0, .string E0, .int .i64 0, .int .i64 0, .int .i64 0, .int .i64 0] 35 (0, 0)) := cs_keep HC27.out hK4 hne
  have y0 := (cell_of_row _ _ 0 _ _ _ hC2b : w4.cell? ⟨w.heap.size, 0, none⟩ = some (.int .i64 0))
  have k0 := free_of_cells hC2b 0
  have y1 := (cell_of_row _ _ 1 _ _ _ hC2b : w4.cell? ⟨w.heap.size, 1, none⟩ = some (.string E0))
  have k1 := free_of_cells hC2b 1
  have y2 := (cell_of_row _ _ 2 _ _ _ hC2b : w4.cell? ⟨w.heap.size, 2, none⟩ = some (.int .i64 0))
  have k2 := free_of_cells hC2b 2
  have y3 := (cell_of_row _ _ 3 _ _ _ hC2b : w4.cell? ⟨w.heap.size, 3, none⟩ = some (.int .i64 0))
  have k3 := free_of_cells hC2b 3
  have y4 := (cell_of_row _ _ 4 _ _ _ hC2b : w4.cell? ⟨w.heap.size, 4, none⟩ = some (.int .i64 0))
  have k4 := free_of_cells hC2b 4
  have y5 := (cell_of_row _ _ 5 _ _ _ hC2b : w4.cell? ⟨w.heap.size, 5, none⟩ = some (.int .i64 0))
  have k5 := free_of_cells hC2b 5
  have HE := Aside0.mk (one_end (w := w) HS4.out HC34.out HC24.out hne hne3 HB4.out HBW.out (Nat.le_refl _) HK4.out ⟨1, s, 0, 0, 0, 0⟩)
  clear hC3b hC2b hS4 hB4 hK4 hC34
  go_wp2
  refine bodyPost_ret (results_cell_row rfl _ _ _ _ _ _ _ rfl HE.out.2.2.2 hu35 rfl size35) rfl ?_
  exact ⟨rfl, HE.out.1, HE.out.2.1, HE.out.2.2.1⟩
set_option maxHeartbeats 2000000 in
set_option maxRecDepth 100000 in
theorem one_num2 {t : List Int} {m b1 e1} (hv : takeS t = (m, b1, e1)) {base R : Nat} {w0 w : World} (hS : RS base R w (2 :: t) 0) (hby : Bytes t) (hm : t.length ≤ 35184372080000) (hB : Below base w0 w) (hbr : base ≤ R) :
    Calls Tryd.prog 39 #[.pointer (some ⟨R, 0, none⟩)] w (OnePost base R w0 w ⟨2, E0, m, 0, 0, 0⟩ b1 e1) := by
  have hRl := rs_lt hS
  have hu35 := Tryd.underlying35
  have hne : w.heap.size ≠ R := by omega
  have hne2 : R ≠ w.heap.size := by omega
  have hne3 : w.heap.size + 1 ≠ R := by omega
  have hne4 : R ≠ w.heap.size + 1 := by omega
  have hne5 : w.heap.size ≠ w.heap.size + 1 := by omega
  have hne6 : w.heap.size + 1 ≠ w.heap.size := by omega
  obtain ⟨A, c, hR, hl, hC, hTB⟩ := hS
  obtain ⟨ad, cc, rfl, -, hk, hcc⟩ := Kd.C_get hC 0 0 (by omega) (by rw [List.length_cons]; omega)
  have hk' : cc = [.int .u8 (2)] := hk
  subst hk'
  have hcell : w.cell? ad = some (.int .u8 (2)) := hcc 0 _ rfl
  have hadl : ad.block < w.heap.size := World.block_lt_of_cell? w ad hcell
  have hadn : ad.block ≠ w.heap.size := by omega
  have hadn1 : ad.block ≠ w.heap.size + 1 := by omega
  have hcellA : (w.alloc (.cells #[.int .i64 0, .string ⟨#[]⟩, .int .i64 0, .int .i64 0, .int .i64 0, .int .i64 0] 35)).cell? ad = some (.int .u8 (2)) := (World.cell?_alloc_lt _ _ _ hadl).trans hcell
  obtain ⟨A', s1, s2, s4⟩ := bslice_from (2 :: t) (some ad) c 1 (by rw [List.length_cons]; omega) hl
  have hlt : t.length + 1 ≤ c := by rw [List.length_cons] at hl; exact hl
  obtain ⟨n, hn⟩ : ∃ n, (2 :: t).length = n := ⟨_, rfl⟩
  have hnt : n - 1 = t.length := by rw [← hn, List.length_cons]; omega
  have hn0 : 0 < n := by rw [← hn, List.length_cons]; omega
  have hrow : RS base R (w.setCell ⟨R, 0, none⟩ (.slice A' (n - 1) (c - 1))) t 0 := by
    have h := rs_row (b := t) hR (by omega : t.length ≤ c - 1) (s2 w hC) (TB.cut hTB (by rw [List.length_cons]; omega) s4)
    rw [hnt]; exact h
  rw [hn] at s1 hR
  have s1' : ∀ W : World, (Instr.slice 22 (.slice (some ad) n c) (some (.int .i64 1)) none none).run Tryd.prog W = .ok (.slice A' (n - 1) (c - 1)) W := s1
  have q0 : ((n : Int) == 0) = false := beq_eq_false_iff_ne.2 (by omega)
  have q0' : ¬ n = 0 := by omega
  have hn0' : (0 : Int) < (n : Int) := by omega
  have c0 : w.cell? ⟨R, 0, none⟩ = some (.slice (some ad) n c) := cell_of_row _ _ 0 _ _ _ hR
  have c1 : w.cell? ⟨R, 1, none⟩ = some (.int .i64 0) := cell_of_row _ _ 1 _ _ _ hR
  have f0 := free_of_cells hR 0
  have hsz : (w.setCell ⟨R, 0, none⟩ (.slice A' (n - 1) (c - 1))).heap.size = w.heap.size := World.size_setCell ..
  have hsz2 : ((w.setCell ⟨R, 0, none⟩ (.slice A' (n - 1) (c - 1))).alloc (.cells #[.int .i64 0, .string ⟨#[]⟩, .int .i64 0, .int .i64 0, .int .i64 0, .int .i64 0] 35)).heap.size = w.heap.size + 1 := by rw [World.size_alloc, hsz]
  have HS7 := Aside0.mk (rs_below hrow (below_alloc (below_alloc (Below.refl _ _) (.cells #[.int .i64 0, .string ⟨#[]⟩, .int .i64 0, .int .i64 0, .int .i64 0, .int .i64 0] 35)) (.cells #[.int .i64 2, .string ⟨#[]⟩, .int .i64 0, .int .i64 0, .int .i64 0, .int .i64 0] 35)))
  have HB7 := Aside0.mk (Below.alloc (Below.alloc (Below.setCell (p := ⟨R, 0, none⟩) hB hbr (.slice A' (n - 1) (c - 1))) (by rw [hsz]; omega) (.cells #[.int .i64 0, .string ⟨#[]⟩, .int .i64 0, .int .i64 0, .int .i64 0, .int .i64 0] 35)) (by rw [hsz2]; omega) (.cells #[.int .i64 2, .string ⟨#[]⟩, .int .i64 0, .int .i64 0, .int .i64 0, .int .i64 0] 35))
  have HK7 := Aside0.mk (kb_alloc (kb_alloc (KeepBut.set_ (KeepBut.refl w R none) 0 (.slice A' (n - 1) (c - 1))) (.cells #[.int .i64 0, .string ⟨#[]⟩, .int .i64 0, .int .i64 0, .int .i64 0, .int .i64 0] 35)) (.cells #[.int .i64 2, .string ⟨#[]⟩, .int .i64 0, .int .i64 0, .int .i64 0, .int .i64 0] 35))
  have HC37 := Aside0.mk (show CS (w.heap.size + 1) (((w.setCell ⟨R, 0, none⟩ (.slice A' (n - 1) (c - 1))).alloc (.cells #[.int .i64 0, .string ⟨#[]⟩, .int .i64 0, .int .i64 0, .int .i64 0, .int .i64 0] 35)).alloc (.cells #[.int .i64 2, .string ⟨#[]⟩, .int .i64 0, .int .i64 0, .int .i64 0, .int .i64 0] 35)) ⟨2, E0, 0, 0, 0, 0⟩ from hsz2 ▸ heap_alloc_new ((w.setCell ⟨R, 0, none⟩ (.slice A' (n - 1) (c - 1))).alloc (.cells #[.int .i64 0, .string ⟨#[]⟩, .int .i64 0, .int .i64 0, .int .i64 0, .int .i64 0] 35)) (.cells #[.int .i64 2, .string ⟨#[]⟩, .int .i64 0, .int .i64 0, .int .i64 0, .int .i64 0] 35))
  have HC27 := Aside0.mk (show CS w.heap.size (((w.setCell ⟨R, 0, none⟩ (.slice A' (n - 1) (c - 1))).alloc (.cells #[.int .i64 0, .string ⟨#[]⟩, .int .i64 0, .int .i64 0, .int .i64 0, .int .i64 0] 35)).alloc (.cells #[.int .i64 2, .string ⟨#[]⟩, .int .i64 0, .int .i64 0, .int .i64 0, .int .i64 0] 35)) ⟨0, E0, 0, 0, 0, 0⟩ from (heap_alloc_old _ _ (by rw [hsz2]; omega)).trans (hsz ▸ heap_alloc_new (w.setCell ⟨R, 0, none⟩ (.slice A' (n - 1) (c - 1))) (.cells #[.int .i64 0, .string ⟨#[]⟩, .int .i64 0, .int .i64 0, .int .i64 0, .int .i64 0] 35)))
  have HBW := Aside0.mk (show base ≤ w.heap.size by omega)
  have HBR := Aside0.mk hbr
  have HBY := Aside0.mk hby
  have HM := Aside0.mk hm
  have HV := Aside0.mk (show numL takeS t 0 = (m, b1, e1) by unfold numL; rw [if_pos rfl]; exact hv)
  clear hv
  clear hB hbr hby hm hl hC hTB hcc hk s1 s2 s4 hlt hn hnt hrow hsz hsz2
  unfold OnePost agg35
  go_enter Tryd.func39, Tryd.ntmps39
  go_wp2_with fail
  refine (s_calls HS7.out HBY.out (by have := HM.out; omega) HB7.out HBR.out HV.out).mono ?_
  rintro yy w4 ⟨rfl, hS4, hB4, hK4⟩
  have hC34 := cs_keep HC37.out hK4 hne3
  have hC3b : w4.heap[w.heap.size + 1]? = some (.cells #[.int .i64 2, .string E0, .int .i64 0, .int .i64 0, .int .i64 0, .int .i64 0] 35 (0, 0)) := hC34
  have x2 := (cell_of_row _ _ 2 _ _ _ hC3b : w4.cell? ⟨w.heap.size + 1, 2, none⟩ = some (.int .i64 0))
  have g2 := free_of_cells hC3b 2
  have HC24 := Aside0.mk (cs_far (cs_keep HC27.out hK4 hne) hne5 2 (.int .i64 m))
  have HS4 := Aside0.mk (rs_far hS4 hC34 hne3 2 (.int .i64 m))
  have HC34 := Aside0.mk (show CS (w.heap.size + 1) (w4.setCell ⟨w.heap.size + 1, 2, none⟩ (.int .i64 m)) ⟨2, E0, m, 0, 0, 0⟩ from cs_set2 hC34 _)
  have HB4 := Aside0.mk (Below.setCell (p := ⟨w.heap.size + 1, 2, none⟩) hB4 (Nat.le_succ_of_le HBW.out) (.int .i64 m))
  have HK4 := Aside0.mk (kb_new (g := w.heap.size + 1) (KeepBut.trans HK7.out hK4 (Or.inl rfl)) (by omega) 2 (.int .i64 m))
  have x0 := (cell_of_row _ _ 0 _ _ _ hC3b : w4.cell? ⟨w.heap.size + 1, 0, none⟩ = some (.int .i64 2))
  have x1 := (cell_of_row _ _ 1 _ _ _ hC3b : w4.cell? ⟨w.heap.size + 1, 1, none⟩ = some (.string E0))
  have x3 := (cell_of_row _ _ 3 _ _ _ hC3b : w4.cell? ⟨w.heap.size + 1, 3, none⟩ = some (.int .i64 0))
  have x4 := (cell_of_row _ _ 4 _ _ _ hC3b : w4.cell? ⟨w.heap.size + 1, 4, none⟩ = some (.int .i64 0))
  have x5 := (cell_of_row _ _ 5 _ _ _ hC3b : w4.cell? ⟨w.heap.size + 1, 5, none⟩ = some (.int .i64 0))
  have hC2b : w4.heap[w.heap.size]? = some (.cells #[.int .i64 0, .string E0, .int .i64 0, .int .i64 0, .int .i64 0, .int .i64 0] 35 (0, 0)) := cs_keep HC27.out hK4 hne
  have y0 := (cell_of_row _ _ 0 _ _ _ hC2b : w4.cell? ⟨w.heap.size, 0, none⟩ = some (.int .i64 0))
  have k0 := free_of_cells hC2b 0
  have y1 := (cell_of_row _ _ 1 _ _ _ hC2b : w4.cell? ⟨w.heap.size, 1, none⟩ = some (.string E0))
  have k1 := free_of_cells hC2b 1
  have y2 := (cell_of_row _ _ 2 _ _ _ hC2b : w4.cell? ⟨w.heap.size, 2, none⟩ = some (.int .i64 0))
  have k2 := free_of_cells hC2b 2
  have y3 := (cell_of_row _ _ 3 _ _ _ hC2b : w4.cell? ⟨w.heap.size, 3, none⟩ = some (.int .i64 0))
  have k3 := free_of_cells hC2b 3
  have y4 := (cell_of_row _ _ 4 _ _ _ hC2b : w4.cell? ⟨w.heap.size, 4, none⟩ = some (.int .i64 0))
  have k4 := free_of_cells hC2b 4
  have y5 := (cell_of_row _ _ 5 _ _ _ hC2b : w4.cell? ⟨w.heap.size, 5, none⟩ = some (.int .i64 0))
  have k5 := free_of_cells hC2b 5
  have HE := Aside0.mk (one_end (w := w) HS4.out HC34.out HC24.out hne hne3 HB4.out HBW.out (Nat.le_refl _) HK4.out ⟨2, E0, m, 0, 0, 0⟩)
  clear hC3b hC2b hS4 hB4 hK4 hC34
  go_wp2
  refine bodyPost_ret (results_cell_row rfl _ _ _ _ _ _ _ rfl HE.out.2.2.2 hu35 rfl size35) rfl ?_
  exact ⟨rfl, HE.out.1, HE.out.2.1, HE.out.2.2.1⟩
set_option maxHeartbeats 2000000 in
set_option maxRecDepth 100000 in
theorem one_num3 {t : List Int} {m b1 e1} (hv : takeS t = (m, b1, e1)) {base R : Nat} {w0 w : World} (hS : RS base R w (3 :: t) 0) (hby : Bytes t) (hm : t.length ≤ 35184372080000) (hB : Below base w0 w) (hbr : base ≤ R) :
    Calls Tryd.prog 39 #[.pointer (some ⟨R, 0, none⟩)] w (OnePost base R w0 w ⟨3, E0, m, 0, 0, 0⟩ b1 e1) := by
  have hRl := rs_lt hS
  have hu35 := Tryd.underlying35
  have hne : w.heap.size ≠ R := by omega
  have hne2 : R ≠ w.heap.size := by omega
  have hne3 : w.heap.size + 1 ≠ R := by omega
  have hne4 : R ≠ w.heap.size + 1 := by omega
  have hne5 : w.heap.size ≠ w.heap.size + 1 := by omega
  have hne6 : w.heap.size + 1 ≠ w.heap.size := by omega
  obtain ⟨A, c, hR, hl, hC, hTB⟩ := hS
  obtain ⟨ad, cc, rfl, -, hk, hcc⟩ := Kd.C_get hC 0 0 (by omega) (by rw [List.length_cons]; omega)
  have hk' : cc = [.int .u8 (3)] := hk
  subst hk'
  have hcell : w.cell? ad = some (.int .u8 (3)) := hcc 0 _ rfl
  have hadl : ad.block < w.heap.size := World.block_lt_of_cell? w ad hcell
  have hadn : ad.block ≠ w.heap.size := by omega
  have hadn1 : ad.block ≠ w.heap.size + 1 := by omega
  have hcellA : (w.alloc (.cells #[.int .i64 0, .string ⟨#[]⟩, .int .i64 0, .int .i64 0, .int .i64 0, .int .i64 0] 35)).cell? ad = some (.int .u8 (3)) := (World.cell?_alloc_lt _ _ _ hadl).trans hcell
  obtain ⟨A', s1, s2, s4⟩ := bslice_from (3 :: t) (some ad) c 1 (by rw [List.length_cons]; omega) hl
  have hlt : t.length + 1 ≤ c := by rw [List.length_cons] at hl; exact hl
  obtain ⟨n, hn⟩ : ∃ n, (3 :: t).length = n := ⟨_, rfl⟩
  have hnt : n - 1 = t.length := by rw [← hn, List.length_cons]; omega
  have hn0 : 0 < n := by rw [← hn, List.length_cons]; omega
  have hrow : RS base R (w.setCell ⟨R, 0, none⟩ (.slice A' (n - 1) (c - 1))) t 0 := by
    have h := rs_row (b := t) hR (by omega : t.length ≤ c - 1) (s2 w hC) (TB.cut hTB (by rw [List.length_cons]; omega) s4)
    rw [hnt]; exact h
  rw [hn] at s1 hR
  have s1' : ∀ W : World, (Instr.slice 22 (.slice (some ad) n c) (some (.int .i64 1)) none none).run Tryd.prog W = .ok (.slice A' (n - 1) (c - 1)) W := s1
  have q0 : ((n : Int) == 0) = false := beq_eq_false_iff_ne.2 (by omega)
  have q0' : ¬ n = 0 := by omega
  have hn0' : (0 : Int) < (n : Int) := by omega
  have c0 : w.cell? ⟨R, 0, none⟩ = some (.slice (some ad) n c) := cell_of_row _ _ 0 _ _ _ hR
  have c1 : w.cell? ⟨R, 1, none⟩ = some (.int .i64 0) := cell_of_row _ _ 1 _ _ _ hR
  have f0 := free_of_cells hR 0
  have hsz : (w.setCell ⟨R, 0, none⟩ (.slice A' (n - 1) (c - 1))).heap.size = w.heap.size := World.size_setCell ..
  have hsz2 : ((w.setCell ⟨R, 0, none⟩ (.slice A' (n - 1) (c - 1))).alloc (.cells #[.int .i64 0, .string ⟨#[]⟩, .int .i64 0, .int .i64 0, .int .i64 0, .int .i64 0] 35)).heap.size = w.heap.size + 1 := by rw [World.size_alloc, hsz]
  have HS7 := Aside0.mk (rs_below hrow (below_alloc (below_alloc (Below.refl _ _) (.cells #[.int .i64 0, .string ⟨#[]⟩, .int .i64 0, .int .i64 0, .int .i64 0, .int .i64 0] 35)) (.cells #[.int .i64 3, .string ⟨#[]⟩, .int .i64 0, .int .i64 0, .int .i64 0, .int .i64 0] 35)))
  have HB7 := Aside0.mk (Below.alloc (Below.alloc (Below.setCell (p := ⟨R, 0, none⟩) hB hbr (.slice A' (n - 1) (c - 1))) (by rw [hsz]; omega) (.cells #[.int .i64 0, .string ⟨#[]⟩, .int .i64 0, .int .i64 0, .int .i64 0, .int .i64 0] 35)) (by rw [hsz2]; omega) (.cells #[.int .i64 3, .string ⟨#[]⟩, .int .i64 0, .int .i64 0, .int .i64 0, .int .i64 0] 35))
  have HK7 := Aside0.mk (kb_alloc (kb_alloc (KeepBut.set_ (KeepBut.refl w R none) 0 (.slice A' (n - 1) (c - 1))) (.cells #[.int .i64 0, .string ⟨#[]⟩, .int .i64 0, .int .i64 0, .int .i64 0, .int .i64 0] 35)) (.cells #[.int .i64 3, .string ⟨#[]⟩, .int .i64 0, .int .i64 0, .int .i64 0, .int .i64 0] 35))
  have HC37 := Aside0.mk (show CS (w.heap.size + 1) (((w.setCell ⟨R, 0, none⟩ (.slice A' (n - 1) (c - 1))).alloc (.cells #[.int .i64 0, .string ⟨#[]⟩, .int .i64 0, .int .i64 0, .int .i64 0, .int .i64 0] 35)).alloc (.cells #[.int .i64 3, .string ⟨#[]⟩, .int .i64 0, .int .i64 0, .int .i64 0, .int .i64 0] 35)) ⟨3, E0, 0, 0, 0, 0⟩ from hsz2 ▸ heap_alloc_new ((w.setCell ⟨R, 0, none⟩ (.slice A' (n - 1) (c - 1))).alloc (.cells #[.int .i64 0, .string ⟨#[]⟩, .int .i64 0, .int .i64 0, .int .i64 0, .int .i64 0] 35)) (.cells #[.int .i64 3, .string ⟨#[]⟩, .int .i64 0, .int .i64 0, .int .i64 0, .int .i64 0] 35))
  have HC27 := Aside0.mk (show CS w.heap.size (((w.setCell ⟨R, 0, none⟩ (.slice A' (n - 1) (c - 1))).alloc (.cells #[.int .i64 0, .string ⟨#[]⟩, .int .i64 0, .int .i64 0, .int .i64 0, .int .i64 0] 35)).alloc (.cells #[.int .i64 3, .string ⟨#[]⟩, .int .i64 0, .int .i64 0, .int .i64 0, .int .i64 0] 35)) ⟨0, E0, 0, 0, 0, 0⟩ from (heap_alloc_old _ _ (by rw [hsz2]; omega)).trans (hsz ▸ heap_alloc_new (w.setCell ⟨R, 0, none⟩ (.slice A' (n - 1) (c - 1))) (.cells #[.int .i64 0, .string ⟨#[]⟩, .int .i64 0, .int .i64 0, .int .i64 0, .int .i64 0] 35)))
  have HBW := Aside0.mk (show base ≤ w.heap.size by omega)
  have HBR := Aside0.mk hbr
  have HBY := Aside0.mk hby
  have HM := Aside0.mk hm
  have HV := Aside0.mk (show numL takeS t 0 = (m, b1, e1) by unfold numL; rw [if_pos rfl]; exact hv)
  clear hv
  clear hB hbr hby hm hl hC hTB hcc hk s1 s2 s4 hlt hn hnt hrow hsz hsz2
  unfold OnePost agg35
  go_enter Tryd.func39, Tryd.ntmps39
  go_wp2_with fail
  refine (s_calls HS7.out HBY.out (by have := HM.out; omega) HB7.out HBR.out HV.out).mono ?_
  rintro yy w4 ⟨rfl, hS4, hB4, hK4⟩
  have hC34 := cs_keep HC37.out hK4 hne3
  have hC3b : w4.heap[w.heap.size + 1]? = some (.cells #[.int .i64 3, .string E0, .int .i64 0, .int .i64 0, .int .i64 0, .int .i64 0] 35 (0, 0)) := hC34
  have x2 := (cell_of_row _ _ 2 _ _ _ hC3b : w4.cell? ⟨w.heap.size + 1, 2, none⟩ = some (.int .i64 0))
  have g2 := free_of_cells hC3b 2
  have HC24 := Aside0.mk (cs_far (cs_keep HC27.out hK4 hne) hne5 2 (.int .i64 m))
  have HS4 := Aside0.mk (rs_far hS4 hC34 hne3 2 (.int .i64 m))
  have HC34 := Aside0.mk (show CS (w.heap.size + 1) (w4.setCell ⟨w.heap.size + 1, 2, none⟩ (.int .i64 m)) ⟨3, E0, m, 0, 0, 0⟩ from cs_set2 hC34 _)
  have HB4 := Aside0.mk (Below.setCell (p := ⟨w.heap.size + 1, 2, none⟩) hB4 (Nat.le_succ_of_le HBW.out) (.int .i64 m))
  have HK4 := Aside0.mk (kb_new (g := w.heap.size + 1) (KeepBut.trans HK7.out hK4 (Or.inl rfl)) (by omega) 2 (.int .i64 m))
  have x0 := (cell_of_row _ _ 0 _ _ _ hC3b : w4.cell? ⟨w.heap.size + 1, 0, none⟩ = some (.int .i64 3))
  have x1 := (cell_of_row _ _ 1 _ _ _ hC3b : w4.cell? ⟨w.heap.size + 1, 1, none⟩ = some (.string E0))
  have x3 := (cell_of_row _ _ 3 _ _ _ hC3b : w4.cell? ⟨w.heap.size + 1, 3, none⟩ = some (.int .i64 0))
  have x4 := (cell_of_row _ _ 4 _ _ _ hC3b : w4.cell? ⟨w.heap.size + 1, 4, none⟩ = some (.int .i64 0))
  have x5 := (cell_of_row _ _ 5 _ _ _ hC3b : w4.cell? ⟨w.heap.size + 1, 5, none⟩ = some (.int .i64 0))
  have hC2b : w4.heap[w.heap.size]? = some (.cells #[.int .i64 0, .string E0, .int .i64 0, .int .i64 0, .int .i64 0, .int .i64 0] 35 (0, 0)) := cs_keep HC27.out hK4 hne
  have y0 := (cell_of_row _ _ 0 _ _ _ hC2b : w4.cell? ⟨w.heap.size, 0, none⟩ = some (.int .i64 0))
  have k0 := free_of_cells hC2b 0
  have y1 := (cell_of_row _ _ 1 _ _ _ hC2b : w4.cell? ⟨w.heap.size, 1, none⟩ = some (.string E0))
  have k1 := free_of_cells hC2b 1
  have y2 := (cell_of_row _ _ 2 _ _ _ hC2b : w4.cell? ⟨w.heap.size, 2, none⟩ = some (.int .i64 0))
  have k2 := free_of_cells hC2b 2
  have y3 := (cell_of_row _ _ 3 _ _ _ hC2b : w4.cell? ⟨w.heap.size, 3, none⟩ = some (.int .i64 0))
  have k3 := free_of_cells hC2b 3
  have y4 := (cell_of_row _ _ 4 _ _ _ hC2b : w4.cell? ⟨w.heap.size, 4, none⟩ = some (.int .i64 0))
  have k4 := free_of_cells hC2b 4
  have y5 := (cell_of_row _ _ 5 _ _ _ hC2b : w4.cell? ⟨w.heap.size, 5, none⟩ = some (.int .i64 0))
  have k5 := free_of_cells hC2b 5
  have HE := Aside0.mk (one_end (w := w) HS4.out HC34.out HC24.out hne hne3 HB4.out HBW.out (Nat.le_refl _) HK4.out ⟨3, E0, m, 0, 0, 0⟩)
  clear hC3b hC2b hS4 hB4 hK4 hC34
  go_wp2
  refine bodyPost_ret (results_cell_row rfl _ _ _ _ _ _ _ rfl HE.out.2.2.2 hu35 rfl size35) rfl ?_
  exact ⟨rfl, HE.out.1, HE.out.2.1, HE.out.2.2.1⟩
set_option maxHeartbeats 2000000 in
set_option maxRecDepth 100000 in
theorem one_class {t : List Int} {m b1 e1} (hv : takeU t = (m, b1, e1)) {base R : Nat} {w0 w : World} (hS : RS base R w (4 :: t) 0) (hby : Bytes t) (hm : t.length ≤ 35184372080000) (hB : Below base w0 w) (hbr : base ≤ R) :
    Calls Tryd.prog 39 #[.pointer (some ⟨R, 0, none⟩)] w (OnePost base R w0 w ⟨4, E0, 0, m, 0, 0⟩ b1 e1) := by
  have hRl := rs_lt hS
  have hu35 := Tryd.underlying35
  have hne : w.heap.size ≠ R := by omega
  have hne2 : R ≠ w.heap.size := by omega
  have hne3 : w.heap.size + 1 ≠ R := by omega
  have hne4 : R ≠ w.heap.size + 1 := by omega
  have hne5 : w.heap.size ≠ w.heap.size + 1 := by omega
  have hne6 : w.heap.size + 1 ≠ w.heap.size := by omega
  obtain ⟨A, c, hR, hl, hC, hTB⟩ := hS
  obtain ⟨ad, cc, rfl, -, hk, hcc⟩ := Kd.C_get hC 0 0 (by omega) (by rw [List.length_cons]; omega)
  have hk' : cc = [.int .u8 (4)] := hk
  subst hk'
  have hcell : w.cell? ad = some (.int .u8 (4)) := hcc 0 _ rfl
  have hadl : ad.block < w.heap.size := World.block_lt_of_cell? w ad hcell
  have hadn : ad.block ≠ w.heap.size := by omega
  have hadn1 : ad.block ≠ w.heap.size + 1 := by omega
  have hcellA : (w.alloc (.cells #[.int .i64 0, .string ⟨#[]⟩, .int .i64 0, .int .i64 0, .int .i64 0, .int .i64 0] 35)).cell? ad = some (.int .u8 (4)) := (World.cell?_alloc_lt _ _ _ hadl).trans hcell
  obtain ⟨A', s1, s2, s4⟩ := bslice_from (4 :: t) (some ad) c 1 (by rw [List.length_cons]; omega) hl
  have hlt : t.length + 1 ≤ c := by rw [List.length_cons] at hl; exact hl
  obtain ⟨n, hn⟩ : ∃ n, (4 :: t).length = n := ⟨_, rfl⟩
  have hnt : n - 1 = t.length := by rw [← hn, List.length_cons]; omega
  have hn0 : 0 < n := by rw [← hn, List.length_cons]; omega
  have hrow : RS base R (w.setCell ⟨R, 0, none⟩ (.slice A' (n - 1) (c - 1))) t 0 := by
    have h := rs_row (b := t) hR (by omega : t.length ≤ c - 1) (s2 w hC) (TB.cut hTB (by rw [List.length_cons]; omega) s4)
    rw [hnt]; exact h
  rw [hn] at s1 hR
  have s1' : ∀ W : World, (Instr.slice 22 (.slice (some ad) n c) (some (.int .i64 1)) none none).run Tryd.prog W = .ok (.slice A' (n - 1) (c - 1)) W := s1
  have q0 : ((n : Int) == 0) = false := beq_eq_false_iff_ne.2 (by omega)
  have q0' : ¬ n = 0 := by omega
  have hn0' : (0 : Int) < (n : Int) := by omega
  have c0 : w.cell? ⟨R, 0, none⟩ = some (.slice (some ad) n c) := cell_of_row _ _ 0 _ _ _ hR
  have c1 : w.cell? ⟨R, 1, none⟩ = some (.int .i64 0) := cell_of_row _ _ 1 _ _ _ hR
  have f0 := free_of_cells hR 0
  have hsz : (w.setCell ⟨R, 0, none⟩ (.slice A' (n - 1) (c - 1))).heap.size = w.heap.size := World.size_setCell ..
  have hsz2 : ((w.setCell ⟨R, 0, none⟩ (.slice A' (n - 1) (c - 1))).alloc (.cells #[.int .i64 0, .string ⟨#[]⟩, .int .i64 0, .int .i64 0, .int .i64 0, .int .i64 0] 35)).heap.size = w.heap.size + 1 := by rw [World.size_alloc, hsz]
  have HS7 := Aside0.mk (rs_below hrow (below_alloc (below_alloc (Below.refl _ _) (.cells #[.int .i64 0, .string ⟨#[]⟩, .int .i64 0, .int .i64 0, .int .i64 0, .int .i64 0] 35)) (.cells #[.int .i64 4, .string ⟨#[]⟩, .int .i64 0, .int .i64 0, .int .i64 0, .int .i64 0] 35)))
  have HB7 := Aside0.mk (Below.alloc (Below.alloc (Below.setCell (p := ⟨R, 0, none⟩) hB hbr (.slice A' (n - 1) (c - 1))) (by rw [hsz]; omega) (.cells #[.int .i64 0, .string ⟨#[]⟩, .int .i64 0, .int .i64 0, .int .i64 0, .int .i64 0] 35)) (by rw [hsz2]; omega) (.cells #[.int .i64 4, .string ⟨#[]⟩, .int .i64 0, .int .i64 0, .int .i64 0, .int .i64 0] 35))
  have HK7 := Aside0.mk (kb_alloc (kb_alloc (KeepBut.set_ (KeepBut.refl w R none) 0 (.slice A' (n - 1) (c - 1))) (.cells #[.int .i64 0, .string ⟨#[]⟩, .int .i64 0, .int .i64 0, .int .i64 0, .int .i64 0] 35)) (.cells #[.int .i64 4, .string ⟨#[]⟩, .int .i64 0, .int .i64 0, .int .i64 0, .int .i64 0] 35))
  have HC37 := Aside0.mk (show CS (w.heap.size + 1) (((w.setCell ⟨R, 0, none⟩ (.slice A' (n - 1) (c - 1))).alloc (.cells #[.int .i64 0, .string ⟨#[]⟩, .int .i64 0, .int .i64 0, .int .i64 0, .int .i64 0] 35)).alloc (.cells #[.int .i64 4, .string ⟨#[]⟩, .int .i64 0, .int .i64 0, .int .i64 0, .int .i64 0] 35)) ⟨4, E0, 0, 0, 0, 0⟩ from hsz2 ▸ heap_alloc_new ((w.setCell ⟨R, 0, none⟩ (.slice A' (n - 1) (c - 1))).alloc (.cells #[.int .i64 0, .string ⟨#[]⟩, .int .i64 0, .int .i64 0, .int .i64 0, .int .i64 0] 35)) (.cells #[.int .i64 4, .string ⟨#[]⟩, .int .i64 0, .int .i64 0, .int .i64 0, .int .i64 0] 35))
  have HC27 := Aside0.mk (show CS w.heap.size (((w.setCell ⟨R, 0, none⟩ (.slice A' (n - 1) (c - 1))).alloc (.cells #[.int .i64 0, .string ⟨#[]⟩, .int .i64 0, .int .i64 0, .int .i64 0, .int .i64 0] 35)).alloc (.cells #[.int .i64 4, .string ⟨#[]⟩, .int .i64 0, .int .i64 0, .int .i64 0, .int .i64 0] 35)) ⟨0, E0, 0, 0, 0, 0⟩ from (heap_alloc_old _ _ (by rw [hsz2]; omega)).trans (hsz ▸ heap_alloc_new (w.setCell ⟨R, 0, none⟩ (.slice A' (n - 1) (c - 1))) (.cells #[.int .i64 0, .string ⟨#[]⟩, .int .i64 0, .int .i64 0, .int .i64 0, .int .i64 0] 35)))
  have HBW := Aside0.mk (show base ≤ w.heap.size by omega)
  have HBR := Aside0.mk hbr
  have HBY := Aside0.mk hby
  have HM := Aside0.mk hm
  have HV := Aside0.mk (show numL takeU t 0 = (m, b1, e1) by unfold numL; rw [if_pos rfl]; exact hv)
  clear hv
  clear hB hbr hby hm hl hC hTB hcc hk s1 s2 s4 hlt hn hnt hrow hsz hsz2
  unfold OnePost agg35
  go_enter Tryd.func39, Tryd.ntmps39
  go_wp2_with fail
  refine (u_calls HS7.out HBY.out (by have := HM.out; omega) HB7.out HBR.out HV.out).mono ?_
  rintro yy w4 ⟨rfl, hS4, hB4, hK4⟩
  have hC34 := cs_keep HC37.out hK4 hne3
  have hC3b : w4.heap[w.heap.size + 1]? = some (.cells #[.int .i64 4, .string E0, .int .i64 0, .int .i64 0, .int .i64 0, .int .i64 0] 35 (0, 0)) := hC34
  have x3 := (cell_of_row _ _ 3 _ _ _ hC3b : w4.cell? ⟨w.heap.size + 1, 3, none⟩ = some (.int .i64 0))
  have g3 := free_of_cells hC3b 3
  have HC24 := Aside0.mk (cs_far (cs_keep HC27.out hK4 hne) hne5 3 (.int .i64 m))
  have HS4 := Aside0.mk (rs_far hS4 hC34 hne3 3 (.int .i64 m))
  have HC34 := Aside0.mk (show CS (w.heap.size + 1) (w4.setCell ⟨w.heap.size + 1, 3, none⟩ (.int .i64 m)) ⟨4, E0, 0, m, 0, 0⟩ from cs_set3 hC34 _)
  have HB4 := Aside0.mk (Below.setCell (p := ⟨w.heap.size + 1, 3, none⟩) hB4 (Nat.le_succ_of_le HBW.out) (.int .i64 m))
  have HK4 := Aside0.mk (kb_new (g := w.heap.size + 1) (KeepBut.trans HK7.out hK4 (Or.inl rfl)) (by omega) 3 (.int .i64 m))
  have x0 := (cell_of_row _ _ 0 _ _ _ hC3b : w4.cell? ⟨w.heap.size + 1, 0, none⟩ = some (.int .i64 4))
  have x1 := (cell_of_row _ _ 1 _ _ _ hC3b : w4.cell? ⟨w.heap.size + 1, 1, none⟩ = some (.string E0))
  have x2 := (cell_of_row _ _ 2 _ _ _ hC3b : w4.cell? ⟨w.heap.size + 1, 2, none⟩ = some (.int .i64 0))
  have x4 := (cell_of_row _ _ 4 _ _ _ hC3b : w4.cell? ⟨w.heap.size + 1, 4, none⟩ = some (.int .i64 0))
  have x5 := (cell_of_row _ _ 5 _ _ _ hC3b : w4.cell? ⟨w.heap.size + 1, 5, none⟩ = some (.int .i64 0))
  have hC2b : w4.heap[w.heap.size]? = some (.cells #[.int .i64 0, .string E0, .int .i64 0, .int .i64 0, .int .i64 0, .int .i64 0] 35 (0, 0)) := cs_keep HC27.out hK4 hne
  have y0 := (cell_of_row _ _ 0 _ _ _ hC2b : w4.cell? ⟨w.heap.size, 0, none⟩ = some (.int .i64 0))
  have k0 := free_of_cells hC2b 0
  have y1 := (cell_of_row _ _ 1 _ _ _ hC2b : w4.cell? ⟨w.heap.size, 1, none⟩ = some (.string E0))
  have k1 := free_of_cells hC2b 1
  have y2 := (cell_of_row _ _ 2 _ _ _ hC2b : w4.cell? ⟨w.heap.size, 2, none⟩ = some (.int .i64 0))
  have k2 := free_of_cells hC2b 2
  have y3 := (cell_of_row _ _ 3 _ _ _ hC2b : w4.cell? ⟨w.heap.size, 3, none⟩ = some (.int .i64 0))
  have k3 := free_of_cells hC2b 3
  have y4 := (cell_of_row _ _ 4 _ _ _ hC2b : w4.cell? ⟨w.heap.size, 4, none⟩ = some (.int .i64 0))
  have k4 := free_of_cells hC2b 4
  have y5 := (cell_of_row _ _ 5 _ _ _ hC2b : w4.cell? ⟨w.heap.size, 5, none⟩ = some (.int .i64 0))
  have k5 := free_of_cells hC2b 5
  have HE := Aside0.mk (one_end (w := w) HS4.out HC34.out HC24.out hne hne3 HB4.out HBW.out (Nat.le_refl _) HK4.out ⟨4, E0, 0, m, 0, 0⟩)
  clear hC3b hC2b hS4 hB4 hK4 hC34
  go_wp2
  refine bodyPost_ret (results_cell_row rfl _ _ _ _ _ _ _ rfl HE.out.2.2.2 hu35 rfl size35) rfl ?_
  exact ⟨rfl, HE.out.1, HE.out.2.1, HE.out.2.2.1⟩
set_option maxHeartbeats 2000000 in
set_option maxRecDepth 100000 in
theorem one_ref5 {t : List Int} {x y z : Int} {b1 b2 b3 : List Int} {e1 e2 e3 : Int} (hv1 : takeU t = (x, b1, e1)) (hv2 : numL takeU b1 e1 = (y, b2, e2)) (hv3 : numL takeU b2 e2 = (z, b3, e3)) {base R : Nat} {w0 w : World} (hS : RS base R w (5 :: t) 0) (hby : Bytes t) (hm : t.length ≤ 35184372080000) (hB : Below base w0 w) (hbr : base ≤ R) :
    Calls Tryd.prog 39 #[.pointer (some ⟨R, 0, none⟩)] w (OnePost base R w0 w ⟨5, E0, 0, x, y, z⟩ b3 e3) := by
  have hRl := rs_lt hS
  have hu35 := Tryd.underlying35
  have hne : w.heap.size ≠ R := by omega
  have hne2 : R ≠ w.heap.size := by omega
  have hne3 : w.heap.size + 1 ≠ R := by omega
  have hne4 : R ≠ w.heap.size + 1 := by omega
  have hne5 : w.heap.size ≠ w.heap.size + 1 := by omega
  have hne6 : w.heap.size + 1 ≠ w.heap.size := by omega
  obtain ⟨A, c, hR, hl, hC, hTB⟩ := hS
  obtain ⟨ad, cc, rfl, -, hk, hcc⟩ := Kd.C_get hC 0 0 (by omega) (by rw [List.length_cons]; omega)
  have hk' : cc = [.int .u8 (5)] := hk
  subst hk'
  have hcell : w.cell? ad = some (.int .u8 (5)) := hcc 0 _ rfl
  have hadl : ad.block < w.heap.size := World.block_lt_of_cell? w ad hcell
  have hadn : ad.block ≠ w.heap.size := by omega
  have hadn1 : ad.block ≠ w.heap.size + 1 := by omega
  have hcellA : (w.alloc (.cells #[.int .i64 0, .string ⟨#[]⟩, .int .i64 0, .int .i64 0, .int .i64 0, .int .i64 0] 35)).cell? ad = some (.int .u8 (5)) := (World.cell?_alloc_lt _ _ _ hadl).trans hcell
  obtain ⟨A', s1, s2, s4⟩ := bslice_from (5 :: t) (some ad) c 1 (by rw [List.length_cons]; omega) hl
  have hlt : t.length + 1 ≤ c := by rw [List.length_cons] at hl; exact hl
  obtain ⟨n, hn⟩ : ∃ n, (5 :: t).length = n := ⟨_, rfl⟩
  have hnt : n - 1 = t.length := by rw [← hn, List.length_cons]; omega
  have hn0 : 0 < n := by rw [← hn, List.length_cons]; omega
  have hrow : RS base R (w.setCell ⟨R, 0, none⟩ (.slice A' (n - 1) (c - 1))) t 0 := by
    have h := rs_row (b := t) hR (by omega : t.length ≤ c - 1) (s2 w hC) (TB.cut hTB (by rw [List.length_cons]; omega) s4)
    rw [hnt]; exact h
  rw [hn] at s1 hR
  have s1' : ∀ W : World, (Instr.slice 22 (.slice (some ad) n c) (some (.int .i64 1)) none none).run Tryd.prog W = .ok (.slice A' (n - 1) (c - 1)) W := s1
  have q0 : ((n : Int) == 0) = false := beq_eq_false_iff_ne.2 (by omega)
  have q0' : ¬ n = 0 := by omega
  have hn0' : (0 : Int) < (n : Int) := by omega
  have c0 : w.cell? ⟨R, 0, none⟩ = some (.slice (some ad) n c) := cell_of_row _ _ 0 _ _ _ hR
  have c1 : w.cell? ⟨R, 1, none⟩ = some (.int .i64 0) := cell_of_row _ _ 1 _ _ _ hR
  have f0 := free_of_cells hR 0
  have hsz : (w.setCell ⟨R, 0, none⟩ (.slice A' (n - 1) (c - 1))).heap.size = w.heap.size := World.size_setCell ..
  have hsz2 : ((w.setCell ⟨R, 0, none⟩ (.slice A' (n - 1) (c - 1))).alloc (.cells #[.int .i64 0, .string ⟨#[]⟩, .int .i64 0, .int .i64 0, .int .i64 0, .int .i64 0] 35)).heap.size = w.heap.size + 1 := by rw [World.size_alloc, hsz]
  have HS7 := Aside0.mk (rs_below hrow (below_alloc (below_alloc (Below.refl _ _) (.cells #[.int .i64 0, .string ⟨#[]⟩, .int .i64 0, .int .i64 0, .int .i64 0, .int .i64 0] 35)) (.cells #[.int .i64 5, .string ⟨#[]⟩, .int .i64 0, .int .i64 0, .int .i64 0, .int .i64 0] 35)))
  have HB7 := Aside0.mk (Below.alloc (Below.alloc (Below.setCell (p := ⟨R, 0, none⟩) hB hbr (.slice A' (n - 1) (c - 1))) (by rw [hsz]; omega) (.cells #[.int .i64 0, .string ⟨#[]⟩, .int .i64 0, .int .i64 0, .int .i64 0, .int .i64 0] 35)) (by rw [hsz2]; omega) (.cells #[.int .i64 5, .string ⟨#[]⟩, .int .i64 0, .int .i64 0, .int .i64 0, .int .i64 0] 35))
  have HK7 := Aside0.mk (kb_alloc (kb_alloc (KeepBut.set_ (KeepBut.refl w R none) 0 (.slice A' (n - 1) (c - 1))) (.cells #[.int .i64 0, .string ⟨#[]⟩, .int .i64 0, .int .i64 0, .int .i64 0, .int .i64 0] 35)) (.cells #[.int .i64 5, .string ⟨#[]⟩, .int .i64 0, .int .i64 0, .int .i64 0, .int .i64 0] 35))
  have HC37 := Aside0.mk (show CS (w.heap.size + 1) (((w.setCell ⟨R, 0, none⟩ (.slice A' (n - 1) (c - 1))).alloc (.cells #[.int .i64 0, .string ⟨#[]⟩, .int .i64 0, .int .i64 0, .int .i64 0, .int .i64 0] 35)).alloc (.cells #[.int .i64 5, .string ⟨#[]⟩, .int .i64 0, .int .i64 0, .int .i64 0, .int .i64 0] 35)) ⟨5, E0, 0, 0, 0, 0⟩ from hsz2 ▸ heap_alloc_new ((w.setCell ⟨R, 0, none⟩ (.slice A' (n - 1) (c - 1))).alloc (.cells #[.int .i64 0, .string ⟨#[]⟩, .int .i64 0, .int .i64 0, .int .i64 0, .int .i64 0] 35)) (.cells #[.int .i64 5, .string ⟨#[]⟩, .int .i64 0, .int .i64 0, .int .i64 0, .int .i64 0] 35))
  have HC27 := Aside0.mk (show CS w.heap.size (((w.setCell ⟨R, 0, none⟩ (.slice A' (n - 1) (c - 1))).alloc (.cells #[.int .i64 0, .string ⟨#[]⟩, .int .i64 0, .int .i64 0, .int .i64 0, .int .i64 0] 35)).alloc (.cells #[.int .i64 5, .string ⟨#[]⟩, .int .i64 0, .int .i64 0, .int .i64 0, .int .i64 0] 35)) ⟨0, E0, 0, 0, 0, 0⟩ from (heap_alloc_old _ _ (by rw [hsz2]; omega)).trans (hsz ▸ heap_alloc_new (w.setCell ⟨R, 0, none⟩ (.slice A' (n - 1) (c - 1))) (.cells #[.int .i64 0, .string ⟨#[]⟩, .int .i64 0, .int .i64 0, .int .i64 0, .int .i64 0] 35)))
  have HBW := Aside0.mk (show base ≤ w.heap.size by omega)
  have HBR := Aside0.mk hbr
  have HBY := Aside0.mk hby
  have HM := Aside0.mk hm
  have HN1 := Aside0.mk (show numL takeU t 0 = (x, b1, e1) by unfold numL; rw [if_pos rfl]; exact hv1)
  have HN2 := Aside0.mk hv2
  have HN3 := Aside0.mk hv3
  have hk1 := takeU_keep hby
  rw [hv1] at hk1
  have hk2 := numk (e := e1) hk1.1
  rw [hv2] at hk2
  have HY1 := Aside0.mk hk1.1
  have HY2 := Aside0.mk hk2.1
  have HM1 := Aside0.mk (show b1.length ≤ 35184372080000 from Nat.le_trans hk1.2.1 hm)
  have HM2 := Aside0.mk (show b2.length ≤ 35184372080000 from Nat.le_trans hk2.2 HM1.out)
  clear hv1 hv2 hv3 hk1 hk2
  clear hB hbr hby hm hl hC hTB hcc hk s1 s2 s4 hlt hn hnt hrow hsz hsz2
  unfold OnePost agg35
  go_enter Tryd.func39, Tryd.ntmps39
  go_wp2_with fail
  refine (u_calls HS7.out HBY.out (by have := HM.out; omega) HB7.out HBR.out HN1.out).mono ?_
  rintro yy w4 ⟨rfl, hS4, hB4, hK4⟩
  have hC34 := cs_keep HC37.out hK4 hne3
  have hC3b : w4.heap[w.heap.size + 1]? = some (.cells #[.int .i64 5, .string E0, .int .i64 0, .int .i64 0, .int .i64 0, .int .i64 0] 35 (0, 0)) := hC34
  have x3 := (cell_of_row _ _ 3 _ _ _ hC3b : w4.cell? ⟨w.heap.size + 1, 3, none⟩ = some (.int .i64 0))
  have g3 := free_of_cells hC3b 3
  have HC24 := Aside0.mk (cs_far (cs_keep HC27.out hK4 hne) hne5 3 (.int .i64 x))
  have HS4 := Aside0.mk (rs_far hS4 hC34 hne3 3 (.int .i64 x))
  have HC34 := Aside0.mk (show CS (w.heap.size + 1) (w4.setCell ⟨w.heap.size + 1, 3, none⟩ (.int .i64 x)) ⟨5, E0, 0, x, 0, 0⟩ from cs_set3 hC34 _)
  have HB4 := Aside0.mk (Below.setCell (p := ⟨w.heap.size + 1, 3, none⟩) hB4 (Nat.le_succ_of_le HBW.out) (.int .i64 x))
  have HK4 := Aside0.mk (kb_new (g := w.heap.size + 1) (KeepBut.trans HK7.out hK4 (Or.inl rfl)) (by omega) 3 (.int .i64 x))
  clear hC3b hS4 hB4 hK4 hC34
  go_wp2_with fail
  refine (u_calls HS4.out HY1.out (by have := HM1.out; omega) HB4.out HBR.out HN2.out).mono ?_
  rintro yy w5 ⟨rfl, hS5, hB5, hK5⟩
  have hC35 := cs_keep HC34.out hK5 hne3
  have hC3b : w5.heap[w.heap.size + 1]? = some (.cells #[.int .i64 5, .string E0, .int .i64 0, .int .i64 x, .int .i64 0, .int .i64 0] 35 (0, 0)) := hC35
  have x4 := (cell_of_row _ _ 4 _ _ _ hC3b : w5.cell? ⟨w.heap.size + 1, 4, none⟩ = some (.int .i64 0))
  have g4 := free_of_cells hC3b 4
  have HC25 := Aside0.mk (cs_far (cs_keep HC24.out hK5 hne) hne5 4 (.int .i64 y))
  have HS5 := Aside0.mk (rs_far hS5 hC35 hne3 4 (.int .i64 y))
  have HC35 := Aside0.mk (show CS (w.heap.size + 1) (w5.setCell ⟨w.heap.size + 1, 4, none⟩ (.int .i64 y)) ⟨5, E0, 0, x, y, 0⟩ from cs_set4 hC35 _)
  have HB5 := Aside0.mk (Below.setCell (p := ⟨w.heap.size + 1, 4, none⟩) hB5 (Nat.le_succ_of_le HBW.out) (.int .i64 y))
  have HK5 := Aside0.mk (kb_new (g := w.heap.size + 1) (KeepBut.trans HK4.out hK5 (Or.inl rfl)) (by omega) 4 (.int .i64 y))
  clear hC3b hS5 hB5 hK5 hC35
  go_wp2_with fail
  refine (u_calls HS5.out HY2.out (by have := HM2.out; omega) HB5.out HBR.out HN3.out).mono ?_
  rintro yy w6 ⟨rfl, hS6, hB6, hK6⟩
  have hC36 := cs_keep HC35.out hK6 hne3
  have hC3b : w6.heap[w.heap.size + 1]? = some (.cells #[.int .i64 5, .string E0, .int .i64 0, .int .i64 x, .int .i64 y, .int .i64 0] 35 (0, 0)) := hC36
  have x5 := (cell_of_row _ _ 5 _ _ _ hC3b : w6.cell? ⟨w.heap.size + 1, 5, none⟩ = some (.int .i64 0))
  have g5 := free_of_cells hC3b 5
  have HC26 := Aside0.mk (cs_far (cs_keep HC25.out hK6 hne) hne5 5 (.int .i64 z))
  have HS6 := Aside0.mk (rs_far hS6 hC36 hne3 5 (.int .i64 z))
  have HC36 := Aside0.mk (show CS (w.heap.size + 1) (w6.setCell ⟨w.heap.size + 1, 5, none⟩ (.int .i64 z)) ⟨5, E0, 0, x, y, z⟩ from cs_set5 hC36 _)
  have HB6 := Aside0.mk (Below.setCell (p := ⟨w.heap.size + 1, 5, none⟩) hB6 (Nat.le_succ_of_le HBW.out) (.int .i64 z))
  have HK6 := Aside0.mk (kb_new (g := w.heap.size + 1) (KeepBut.trans HK5.out hK6 (Or.inl rfl)) (by omega) 5 (.int .i64 z))
  have x0 := (cell_of_row _ _ 0 _ _ _ hC3b : w6.cell? ⟨w.heap.size + 1, 0, none⟩ = some (.int .i64 5))
  have x1 := (cell_of_row _ _ 1 _ _ _ hC3b : w6.cell? ⟨w.heap.size + 1, 1, none⟩ = some (.string E0))
  have x2 := (cell_of_row _ _ 2 _ _ _ hC3b : w6.cell? ⟨w.heap.size + 1, 2, none⟩ = some (.int .i64 0))
  have x3 := (cell_of_row _ _ 3 _ _ _ hC3b : w6.cell? ⟨w.heap.size + 1, 3, none⟩ = some (.int .i64 x))
  have x4 := (cell_of_row _ _ 4 _ _ _ hC3b : w6.cell? ⟨w.heap.size + 1, 4, none⟩ = some (.int .i64 y))
  have hC2b : w6.heap[w.heap.size]? = some (.cells #[.int .i64 0, .string E0, .int .i64 0, .int .i64 0, .int .i64 0, .int .i64 0] 35 (0, 0)) := cs_keep HC25.out hK6 hne
  have y0 := (cell_of_row _ _ 0 _ _ _ hC2b : w6.cell? ⟨w.heap.size, 0, none⟩ = some (.int .i64 0))
  have k0 := free_of_cells hC2b 0
  have y1 := (cell_of_row _ _ 1 _ _ _ hC2b : w6.cell? ⟨w.heap.size, 1, none⟩ = some (.string E0))
  have k1 := free_of_cells hC2b 1
  have y2 := (cell_of_row _ _ 2 _ _ _ hC2b : w6.cell? ⟨w.heap.size, 2, none⟩ = some (.int .i64 0))
  have k2 := free_of_cells hC2b 2
  have y3 := (cell_of_row _ _ 3 _ _ _ hC2b : w6.cell? ⟨w.heap.size, 3, none⟩ = some (.int .i64 0))
  have k3 := free_of_cells hC2b 3
  have y4 := (cell_of_row _ _ 4 _ _ _ hC2b : w6.cell? ⟨w.heap.size, 4, none⟩ = some (.int .i64 0))
  have k4 := free_of_cells hC2b 4
  have y5 := (cell_of_row _ _ 5 _ _ _ hC2b : w6.cell? ⟨w.heap.size, 5, none⟩ = some (.int .i64 0))
  have k5 := free_of_cells hC2b 5
  have HE := Aside0.mk (one_end (w := w) HS6.out HC36.out HC26.out hne hne3 HB6.out HBW.out (Nat.le_refl _) HK6.out ⟨5, E0, 0, x, y, z⟩)
  clear hC3b hC2b hS6 hB6 hK6 hC36
  go_wp2
  refine bodyPost_ret (results_cell_row rfl _ _ _ _ _ _ _ rfl HE.out.2.2.2 hu35 rfl size35) rfl ?_
  exact ⟨rfl, HE.out.1, HE.out.2.1, HE.out.2.2.1⟩
set_option maxHeartbeats 2000000 in
set_option maxRecDepth 100000 in
theorem one_ref6 {t : List Int} {x y z : Int} {b1 b2 b3 : List Int} {e1 e2 e3 : Int} (hv1 : takeU t = (x, b1, e1)) (hv2 : numL takeU b1 e1 = (y, b2, e2)) (hv3 : numL takeU b2 e2 = (z, b3, e3)) {base R : Nat} {w0 w : World} (hS : RS base R w (6 :: t) 0) (hby : Bytes t) (hm : t.length ≤ 35184372080000) (hB : Below base w0 w) (hbr : base ≤ R) :
    Calls Tryd.prog 39 #[.pointer (some ⟨R, 0, none⟩)] w (OnePost base R w0 w ⟨6, E0, 0, x, y, z⟩ b3 e3) := by
  have hRl := rs_lt hS
  have hu35 := Tryd.underlying35
  have hne : w.heap.size ≠ R := by omega
  have hne2 : R ≠ w.heap.size := by omega
  have hne3 : w.heap.size + 1 ≠ R := by omega
  have hne4 : R ≠ w.heap.size + 1 := by omega
  have hne5 : w.heap.size ≠ w.heap.size + 1 := by omega
  have hne6 : w.heap.size + 1 ≠ w.heap.size := by omega
  obtain ⟨A, c, hR, hl, hC, hTB⟩ := hS
  obtain ⟨ad, cc, rfl, -, hk, hcc⟩ := Kd.C_get hC 0 0 (by omega) (by rw [List.length_cons]; omega)
  have hk' : cc = [.int .u8 (6)] := hk
  subst hk'
  have hcell : w.cell? ad = some (.int .u8 (6)) := hcc 0 _ rfl
  have hadl : ad.block < w.heap.size := World.block_lt_of_cell? w ad hcell
  have hadn : ad.block ≠ w.heap.size := by omega
  have hadn1 : ad.block ≠ w.heap.size + 1 := by omega
  have hcellA : (w.alloc (.cells #[.int .i64 0, .string ⟨#[]⟩, .int .i64 0, .int .i64 0, .int .i64 0, .int .i64 0] 35)).cell? ad = some (.int .u8 (6)) := (World.cell?_alloc_lt _ _ _ hadl).trans hcell
  obtain ⟨A', s1, s2, s4⟩ := bslice_from (6 :: t) (some ad) c 1 (by rw [List.length_cons]; omega) hl
  have hlt : t.length + 1 ≤ c := by rw [List.length_cons] at hl; exact hl
  obtain ⟨n, hn⟩ : ∃ n, (6 :: t).length = n := ⟨_, rfl⟩
  have hnt : n - 1 = t.length := by rw [← hn, List.length_cons]; omega
  have hn0 : 0 < n := by rw [← hn, List.length_cons]; omega
  have hrow : RS base R (w.setCell ⟨R, 0, none⟩ (.slice A' (n - 1) (c - 1))) t 0 := by
    have h := rs_row (b := t) hR (by omega : t.length ≤ c - 1) (s2 w hC) (TB.cut hTB (by rw [List.length_cons]; omega) s4)
    rw [hnt]; exact h
  rw [hn] at s1 hR
  have s1' : ∀ W : World, (Instr.slice 22 (.slice (some ad) n c) (some (.int .i64 1)) none none).run Tryd.prog W = .ok (.slice A' (n - 1) (c - 1)) W := s1
  have q0 : ((n : Int) == 0) = false := beq_eq_false_iff_ne.2 (by omega)
  have q0' : ¬ n = 0 := by omega
  have hn0' : (0 : Int) < (n : Int) := by omega
  have c0 : w.cell? ⟨R, 0, none⟩ = some (.slice (some ad) n c) := cell_of_row _ _ 0 _ _ _ hR
  have c1 : w.cell? ⟨R, 1, none⟩ = some (.int .i64 0) := cell_of_row _ _ 1 _ _ _ hR
  have f0 := free_of_cells hR 0
  have hsz : (w.setCell ⟨R, 0, none⟩ (.slice A' (n - 1) (c - 1))).heap.size = w.heap.size := World.size_setCell ..
  have hsz2 : ((w.setCell ⟨R, 0, none⟩ (.slice A' (n - 1) (c - 1))).alloc (.cells #[.int .i64 0, .string ⟨#[]⟩, .int .i64 0, .int .i64 0, .int .i64 0, .int .i64 0] 35)).heap.size = w.heap.size + 1 := by rw [World.size_alloc, hsz]
  have HS7 := Aside0.mk (rs_below hrow (below_alloc (below_alloc (Below.refl _ _) (.cells #[.int .i64 0, .string ⟨#[]⟩, .int .i64 0, .int .i64 0, .int .i64 0, .int .i64 0] 35)) (.cells #[.int .i64 6, .string ⟨#[]⟩, .int .i64 0, .int .i64 0, .int .i64 0, .int .i64 0] 35)))
  have HB7 := Aside0.mk (Below.alloc (Below.alloc (Below.setCell (p := ⟨R, 0, none⟩) hB hbr (.slice A' (n - 1) (c - 1))) (by rw [hsz]; omega) (.cells #[.int .i64 0, .string ⟨#[]⟩, .int .i64 0, .int .i64 0, .int .i64 0, .int .i64 0] 35)) (by rw [hsz2]; omega) (.cells #[.int .i64 6, .string ⟨#[]⟩, .int .i64 0, .int .i64 0, .int .i64 0, .int .i64 0] 35))
  have HK7 := Aside0.mk (kb_alloc (kb_alloc (KeepBut.set_ (KeepBut.refl w R none) 0 (.slice A' (n - 1) (c - 1))) (.cells #[.int .i64 0, .string ⟨#[]⟩, .int .i64 0, .int .i64 0, .int .i64 0, .int .i64 0] 35)) (.cells #[.int .i64 6, .string ⟨#[]⟩, .int .i64 0, .int .i64 0, .int .i64 0, .int .i64 0] 35))
  have HC37 := Aside0.mk (show CS (w.heap.size + 1) (((w.setCell ⟨R, 0, none⟩ (.slice A' (n - 1) (c - 1))).alloc (.cells #[.int .i64 0, .string ⟨#[]⟩, .int .i64 0, .int .i64 0, .int .i64 0, .int .i64 0] 35)).alloc (.cells #[.int .i64 6, .string ⟨#[]⟩, .int .i64 0, .int .i64 0, .int .i64 0, .int .i64 0] 35)) ⟨6, E0, 0, 0, 0, 0⟩ from hsz2 ▸ heap_alloc_new ((w.setCell ⟨R, 0, none⟩ (.slice A' (n - 1) (c - 1))).alloc (.cells #[.int .i64 0, .string ⟨#[]⟩, .int .i64 0, .int .i64 0, .int .i64 0, .int .i64 0] 35)) (.cells #[.int .i64 6, .string ⟨#[]⟩, .int .i64 0, .int .i64 0, .int .i64 0, .int .i64 0] 35))
  have HC27 := Aside0.mk (show CS w.heap.size (((w.setCell ⟨R, 0, none⟩ (.slice A' (n - 1) (c - 1))).alloc (.cells #[.int .i64 0, .string ⟨#[]⟩, .int .i64 0, .int .i64 0, .int .i64 0, .int .i64 0] 35)).alloc (.cells #[.int .i64 6, .string ⟨#[]⟩, .int .i64 0, .int .i64 0, .int .i64 0, .int .i64 0] 35)) ⟨0, E0, 0, 0, 0, 0⟩ from (heap_alloc_old _ _ (by rw [hsz2]; omega)).trans (hsz ▸ heap_alloc_new (w.setCell ⟨R, 0, none⟩ (.slice A' (n - 1) (c - 1))) (.cells #[.int .i64 0, .string ⟨#[]⟩, .int .i64 0, .int .i64 0, .int .i64 0, .int .i64 0] 35)))
  have HBW := Aside0.mk (show base ≤ w.heap.size by omega)
  have HBR := Aside0.mk hbr
  have HBY := Aside0.mk hby
  have HM := Aside0.mk hm
  have HN1 := Aside0.mk (show numL takeU t 0 = (x, b1, e1) by unfold numL; rw [if_pos rfl]; exact hv1)
  have HN2 := Aside0.mk hv2
  have HN3 := Aside0.mk hv3
  have hk1 := takeU_keep hby
  rw [hv1] at hk1
  have hk2 := numk (e := e1) hk1.1
  rw [hv2] at hk2
  have HY1 := Aside0.mk hk1.1
  have HY2 := Aside0.mk hk2.1
  have HM1 := Aside0.mk (show b1.length ≤ 35184372080000 from Nat.le_trans hk1.2.1 hm)
  have HM2 := Aside0.mk (show b2.length ≤ 35184372080000 from Nat.le_trans hk2.2 HM1.out)
  clear hv1 hv2 hv3 hk1 hk2
  clear hB hbr hby hm hl hC hTB hcc hk s1 s2 s4 hlt hn hnt hrow hsz hsz2
  unfold OnePost agg35
  go_enter Tryd.func39, Tryd.ntmps39
  go_wp2_with fail
  refine (u_calls HS7.out HBY.out (by have := HM.out; omega) HB7.out HBR.out HN1.out).mono ?_
  rintro yy w4 ⟨rfl, hS4, hB4, hK4⟩
  have hC34 := cs_keep HC37.out hK4 hne3
  have hC3b : w4.heap[w.heap.size + 1]? = some (.cells #[.int .i64 6, .string E0, .int .i64 0, .int .i64 0, .int .i64 0, .int .i64 0] 35 (0, 0)) := hC34
  have x3 := (cell_of_row _ _ 3 _ _ _ hC3b : w4.cell? ⟨w.heap.size + 1, 3, none⟩ = some (.int .i64 0))
  have g3 := free_of_cells hC3b 3
  have HC24 := Aside0.mk (cs_far (cs_keep HC27.out hK4 hne) hne5 3 (.int .i64 x))
  have HS4 := Aside0.mk (rs_far hS4 hC34 hne3 3 (.int .i64 x))
  have HC34 := Aside0.mk (show CS (w.heap.size + 1) (w4.setCell ⟨w.heap.size + 1, 3, none⟩ (.int .i64 x)) ⟨6, E0, 0, x, 0, 0⟩ from cs_set3 hC34 _)
  have HB4 := Aside0.mk (Below.setCell (p := ⟨w.heap.size + 1, 3, none⟩) hB4 (Nat.le_succ_of_le HBW.out) (.int .i64 x))
  have HK4 := Aside0.mk (kb_new (g := w.heap.size + 1) (KeepBut.trans HK7.out hK4 (Or.inl rfl)) (by omega) 3 (.int .i64 x))
  clear hC3b hS4 hB4 hK4 hC34
  go_wp2_with fail
  refine (u_calls HS4.out HY1.out (by have := HM1.out; omega) HB4.out HBR.out HN2.out).mono ?_
  rintro yy w5 ⟨rfl, hS5, hB5, hK5⟩
  have hC35 := cs_keep HC34.out hK5 hne3
  have hC3b : w5.heap[w.heap.size + 1]? = some (.cells #[.int .i64 6, .string E0, .int .i64 0, .int .i64 x, .int .i64 0, .int .i64 0] 35 (0, 0)) := hC35
  have x4 := (cell_of_row _ _ 4 _ _ _ hC3b : w5.cell? ⟨w.heap.size + 1, 4, none⟩ = some (.int .i64 0))
  have g4 := free_of_cells hC3b 4
  have HC25 := Aside0.mk (cs_far (cs_keep HC24.out hK5 hne) hne5 4 (.int .i64 y))
  have HS5 := Aside0.mk (rs_far hS5 hC35 hne3 4 (.int .i64 y))
  have HC35 := Aside0.mk (show CS (w.heap.size + 1) (w5.setCell ⟨w.heap.size + 1, 4, none⟩ (.int .i64 y)) ⟨6, E0, 0, x, y, 0⟩ from cs_set4 hC35 _)
  have HB5 := Aside0.mk (Below.setCell (p := ⟨w.heap.size + 1, 4, none⟩) hB5 (Nat.le_succ_of_le HBW.out) (.int .i64 y))
  have HK5 := Aside0.mk (kb_new (g := w.heap.size + 1) (KeepBut.trans HK4.out hK5 (Or.inl rfl)) (by omega) 4 (.int .i64 y))
  clear hC3b hS5 hB5 hK5 hC35
  go_wp2_with fail
  refine (u_calls HS5.out HY2.out (by have := HM2.out; omega) HB5.out HBR.out HN3.out).mono ?_
  rintro yy w6 ⟨rfl, hS6, hB6, hK6⟩
  have hC36 := cs_keep HC35.out hK6 hne3
  have hC3b : w6.heap[w.heap.size + 1]? = some (.cells #[.int .i64 6, .string E0, .int .i64 0, .int .i64 x, .int .i64 y, .int .i64 0] 35 (0, 0)) := hC36
  have x5 := (cell_of_row _ _ 5 _ _ _ hC3b : w6.cell? ⟨w.heap.size + 1, 5, none⟩ = some (.int .i64 0))
  have g5 := free_of_cells hC3b 5
  have HC26 := Aside0.mk (cs_far (cs_keep HC25.out hK6 hne) hne5 5 (.int .i64 z))
  have HS6 := Aside0.mk (rs_far hS6 hC36 hne3 5 (.int .i64 z))
  have HC36 := Aside0.mk (show CS (w.heap.size + 1) (w6.setCell ⟨w.heap.size + 1, 5, none⟩ (.int .i64 z)) ⟨6, E0, 0, x, y, z⟩ from cs_set5 hC36 _)
  have HB6 := Aside0.mk (Below.setCell (p := ⟨w.heap.size + 1, 5, none⟩) hB6 (Nat.le_succ_of_le HBW.out) (.int .i64 z))
  have HK6 := Aside0.mk (kb_new (g := w.heap.size + 1) (KeepBut.trans HK5.out hK6 (Or.inl rfl)) (by omega) 5 (.int .i64 z))
  have x0 := (cell_of_row _ _ 0 _ _ _ hC3b : w6.cell? ⟨w.heap.size + 1, 0, none⟩ = some (.int .i64 6))
  have x1 := (cell_of_row _ _ 1 _ _ _ hC3b : w6.cell? ⟨w.heap.size + 1, 1, none⟩ = some (.string E0))
  have x2 := (cell_of_row _ _ 2 _ _ _ hC3b : w6.cell? ⟨w.heap.size + 1, 2, none⟩ = some (.int .i64 0))
  have x3 := (cell_of_row _ _ 3 _ _ _ hC3b : w6.cell? ⟨w.heap.size + 1, 3, none⟩ = some (.int .i64 x))
  have x4 := (cell_of_row _ _ 4 _ _ _ hC3b : w6.cell? ⟨w.heap.size + 1, 4, none⟩ = some (.int .i64 y))
  have hC2b : w6.heap[w.heap.size]? = some (.cells #[.int .i64 0, .string E0, .int .i64 0, .int .i64 0, .int .i64 0, .int .i64 0] 35 (0, 0)) := cs_keep HC25.out hK6 hne
  have y0 := (cell_of_row _ _ 0 _ _ _ hC2b : w6.cell? ⟨w.heap.size, 0, none⟩ = some (.int .i64 0))
  have k0 := free_of_cells hC2b 0
  have y1 := (cell_of_row _ _ 1 _ _ _ hC2b : w6.cell? ⟨w.heap.size, 1, none⟩ = some (.string E0))
  have k1 := free_of_cells hC2b 1
  have y2 := (cell_of_row _ _ 2 _ _ _ hC2b : w6.cell? ⟨w.heap.size, 2, none⟩ = some (.int .i64 0))
  have k2 := free_of_cells hC2b 2
  have y3 := (cell_of_row _ _ 3 _ _ _ hC2b : w6.cell? ⟨w.heap.size, 3, none⟩ = some (.int .i64 0))
  have k3 := free_of_cells hC2b 3
  have y4 := (cell_of_row _ _ 4 _ _ _ hC2b : w6.cell? ⟨w.heap.size, 4, none⟩ = some (.int .i64 0))
  have k4 := free_of_cells hC2b 4
  have y5 := (cell_of_row _ _ 5 _ _ _ hC2b : w6.cell? ⟨w.heap.size, 5, none⟩ = some (.int .i64 0))
  have k5 := free_of_cells hC2b 5
  have HE := Aside0.mk (one_end (w := w) HS6.out HC36.out HC26.out hne hne3 HB6.out HBW.out (Nat.le_refl _) HK6.out ⟨6, E0, 0, x, y, z⟩)
  clear hC3b hC2b hS6 hB6 hK6 hC36
  go_wp2
  refine bodyPost_ret (results_cell_row rfl _ _ _ _ _ _ _ rfl HE.out.2.2.2 hu35 rfl size35) rfl ?_
  exact ⟨rfl, HE.out.1, HE.out.2.1, HE.out.2.2.1⟩
set_option maxHeartbeats 2000000 in
set_option maxRecDepth 100000 in
theorem one_bad {t : List Int} {k : Int} (hk0 : 0 ≤ k) (hk255 : k ≤ 255) (h1 : k ≠ 1) (h2 : k ≠ 2) (h3 : k ≠ 3) (h4 : k ≠ 4) (h5 : k ≠ 5) (h6 : k ≠ 6) {base R : Nat} {w0 w : World} (hS : RS base R w (k :: t) 0) (hby : Bytes t) (hm : t.length ≤ 35184372080000) (hB : Below base w0 w) (hbr : base ≤ R) :
    Calls Tryd.prog 39 #[.pointer (some ⟨R, 0, none⟩)] w (OnePost base R w0 w ⟨k, E0, 0, 0, 0, 0⟩ t 4) := by
  have hRl := rs_lt hS
  have hu35 := Tryd.underlying35
  have hne : w.heap.size ≠ R := by omega
  have hne2 : R ≠ w.heap.size := by omega
  have hne3 : w.heap.size + 1 ≠ R := by omega
  have hne4 : R ≠ w.heap.size + 1 := by omega
  have hne5 : w.heap.size ≠ w.heap.size + 1 := by omega
  have hne6 : w.heap.size + 1 ≠ w.heap.size := by omega
  obtain ⟨A, c, hR, hl, hC, hTB⟩ := hS
  obtain ⟨ad, cc, rfl, -, hk, hcc⟩ := Kd.C_get hC 0 0 (by omega) (by rw [List.length_cons]; omega)
  have hk' : cc = [.int .u8 (k)] := hk
  subst hk'
  have hcell : w.cell? ad = some (.int .u8 (k)) := hcc 0 _ rfl
  have hadl : ad.block < w.heap.size := World.block_lt_of_cell? w ad hcell
  have hadn : ad.block ≠ w.heap.size := by omega
  have hadn1 : ad.block ≠ w.heap.size + 1 := by omega
  have hcellA : (w.alloc (.cells #[.int .i64 0, .string ⟨#[]⟩, .int .i64 0, .int .i64 0, .int .i64 0, .int .i64 0] 35)).cell? ad = some (.int .u8 (k)) := (World.cell?_alloc_lt _ _ _ hadl).trans hcell
  obtain ⟨A', s1, s2, s4⟩ := bslice_from (k :: t) (some ad) c 1 (by rw [List.length_cons]; omega) hl
  have hlt : t.length + 1 ≤ c := by rw [List.length_cons] at hl; exact hl
  obtain ⟨n, hn⟩ : ∃ n, (k :: t).length = n := ⟨_, rfl⟩
  have hnt : n - 1 = t.length := by rw [← hn, List.length_cons]; omega
  have hn0 : 0 < n := by rw [← hn, List.length_cons]; omega
  have hrow : RS base R (w.setCell ⟨R, 0, none⟩ (.slice A' (n - 1) (c - 1))) t 0 := by
    have h := rs_row (b := t) hR (by omega : t.length ≤ c - 1) (s2 w hC) (TB.cut hTB (by rw [List.length_cons]; omega) s4)
    rw [hnt]; exact h
  rw [hn] at s1 hR
  have s1' : ∀ W : World, (Instr.slice 22 (.slice (some ad) n c) (some (.int .i64 1)) none none).run Tryd.prog W = .ok (.slice A' (n - 1) (c - 1)) W := s1
  have q0 : ((n : Int) == 0) = false := beq_eq_false_iff_ne.2 (by omega)
  have q0' : ¬ n = 0 := by omega
  have hn0' : (0 : Int) < (n : Int) := by omega
  have c0 : w.cell? ⟨R, 0, none⟩ = some (.slice (some ad) n c) := cell_of_row _ _ 0 _ _ _ hR
  have c1 : w.cell? ⟨R, 1, none⟩ = some (.int .i64 0) := cell_of_row _ _ 1 _ _ _ hR
  have f0 := free_of_cells hR 0
  have hsz : (w.setCell ⟨R, 0, none⟩ (.slice A' (n - 1) (c - 1))).heap.size = w.heap.size := World.size_setCell ..
  have hsz2 : ((w.setCell ⟨R, 0, none⟩ (.slice A' (n - 1) (c - 1))).alloc (.cells #[.int .i64 0, .string ⟨#[]⟩, .int .i64 0, .int .i64 0, .int .i64 0, .int .i64 0] 35)).heap.size = w.heap.size + 1 := by rw [World.size_alloc, hsz]
  have HS7 := Aside0.mk (rs_below hrow (below_alloc (below_alloc (Below.refl _ _) (.cells #[.int .i64 0, .string ⟨#[]⟩, .int .i64 0, .int .i64 0, .int .i64 0, .int .i64 0] 35)) (.cells #[.int .i64 k, .string ⟨#[]⟩, .int .i64 0, .int .i64 0, .int .i64 0, .int .i64 0] 35)))
  have HB7 := Aside0.mk (Below.alloc (Below.alloc (Below.setCell (p := ⟨R, 0, none⟩) hB hbr (.slice A' (n - 1) (c - 1))) (by rw [hsz]; omega) (.cells #[.int .i64 0, .string ⟨#[]⟩, .int .i64 0, .int .i64 0, .int .i64 0, .int .i64 0] 35)) (by rw [hsz2]; omega) (.cells #[.int .i64 k, .string ⟨#[]⟩, .int .i64 0, .int .i64 0, .int .i64 0, .int .i64 0] 35))
  have HK7 := Aside0.mk (kb_alloc (kb_alloc (KeepBut.set_ (KeepBut.refl w R none) 0 (.slice A' (n - 1) (c - 1))) (.cells #[.int .i64 0, .string ⟨#[]⟩, .int .i64 0, .int .i64 0, .int .i64 0, .int .i64 0] 35)) (.cells #[.int .i64 k, .string ⟨#[]⟩, .int .i64 0, .int .i64 0, .int .i64 0, .int .i64 0] 35))
  have HC37 := Aside0.mk (show CS (w.heap.size + 1) (((w.setCell ⟨R, 0, none⟩ (.slice A' (n - 1) (c - 1))).alloc (.cells #[.int .i64 0, .string ⟨#[]⟩, .int .i64 0, .int .i64 0, .int .i64 0, .int .i64 0] 35)).alloc (.cells #[.int .i64 k, .string ⟨#[]⟩, .int .i64 0, .int .i64 0, .int .i64 0, .int .i64 0] 35)) ⟨k, E0, 0, 0, 0, 0⟩ from hsz2 ▸ heap_alloc_new ((w.setCell ⟨R, 0, none⟩ (.slice A' (n - 1) (c - 1))).alloc (.cells #[.int .i64 0, .string ⟨#[]⟩, .int .i64 0, .int .i64 0, .int .i64 0, .int .i64 0] 35)) (.cells #[.int .i64 k, .string ⟨#[]⟩, .int .i64 0, .int .i64 0, .int .i64 0, .int .i64 0] 35))
  have HC27 := Aside0.mk (show CS w.heap.size (((w.setCell ⟨R, 0, none⟩ (.slice A' (n - 1) (c - 1))).alloc (.cells #[.int .i64 0, .string ⟨#[]⟩, .int .i64 0, .int .i64 0, .int .i64 0, .int .i64 0] 35)).alloc (.cells #[.int .i64 k, .string ⟨#[]⟩, .int .i64 0, .int .i64 0, .int .i64 0, .int .i64 0] 35)) ⟨0, E0, 0, 0, 0, 0⟩ from (heap_alloc_old _ _ (by rw [hsz2]; omega)).trans (hsz ▸ heap_alloc_new (w.setCell ⟨R, 0, none⟩ (.slice A' (n - 1) (c - 1))) (.cells #[.int .i64 0, .string ⟨#[]⟩, .int .i64 0, .int .i64 0, .int .i64 0, .int .i64 0] 35)))
  have HBW := Aside0.mk (show base ≤ w.heap.size by omega)
  have HBR := Aside0.mk hbr
  have HBY := Aside0.mk hby
  have HM := Aside0.mk hm
  have hw64 : wrap64 k = k := wrap64_id _ (by omega) (by omega)
  have p1 : (k == 1) = false := beq_eq_false_iff_ne.2 h1
  have p2 : (k == 2) = false := beq_eq_false_iff_ne.2 h2
  have p3 : (k == 3) = false := beq_eq_false_iff_ne.2 h3
  have p4 : (k == 4) = false := beq_eq_false_iff_ne.2 h4
  have p5 : (k == 5) = false := beq_eq_false_iff_ne.2 h5
  have p6 : (k == 6) = false := beq_eq_false_iff_ne.2 h6
  have f1 := free_of_cells hR 1
  have hszW : ((w.setCell ⟨R, 0, none⟩ (.slice A' (n - 1) (c - 1))).setCell ⟨R, 1, none⟩ (.int .i64 4)).heap.size = w.heap.size := by rw [World.size_setCell, World.size_setCell]
  have hszW2 : (((w.setCell ⟨R, 0, none⟩ (.slice A' (n - 1) (c - 1))).setCell ⟨R, 1, none⟩ (.int .i64 4)).alloc (.cells #[.int .i64 k, .string ⟨#[]⟩, .int .i64 0, .int .i64 0, .int .i64 0, .int .i64 0] 35)).heap.size = w.heap.size + 1 := by rw [World.size_alloc, hszW]
  have HP := Aside0.mk (rs_below (rs_err hrow 4) (below_alloc (below_alloc (Below.refl _ _) (.cells #[.int .i64 k, .string ⟨#[]⟩, .int .i64 0, .int .i64 0, .int .i64 0, .int .i64 0] 35)) (.cells #[.int .i64 k, .string ⟨#[]⟩, .int .i64 0, .int .i64 0, .int .i64 0, .int .i64 0] 35)))
  have HB1 := Aside0.mk (Below.alloc (Below.alloc (Below.setCell (p := ⟨R, 1, none⟩) (Below.setCell (p := ⟨R, 0, none⟩) hB hbr (.slice A' (n - 1) (c - 1))) hbr (.int .i64 4)) (by rw [hszW]; omega) (.cells #[.int .i64 k, .string ⟨#[]⟩, .int .i64 0, .int .i64 0, .int .i64 0, .int .i64 0] 35)) (by rw [hszW2]; omega) (.cells #[.int .i64 k, .string ⟨#[]⟩, .int .i64 0, .int .i64 0, .int .i64 0, .int .i64 0] 35))
  have HK := Aside0.mk (kb_alloc (kb_alloc (KeepBut.set_ (KeepBut.set_ (KeepBut.refl w R none) 0 (.slice A' (n - 1) (c - 1))) 1 (.int .i64 4)) (.cells #[.int .i64 k, .string ⟨#[]⟩, .int .i64 0, .int .i64 0, .int .i64 0, .int .i64 0] 35)) (.cells #[.int .i64 k, .string ⟨#[]⟩, .int .i64 0, .int .i64 0, .int .i64 0, .int .i64 0] 35))
  have HC2 := Aside0.mk (show CS w.heap.size ((((w.setCell ⟨R, 0, none⟩ (.slice A' (n - 1) (c - 1))).setCell ⟨R, 1, none⟩ (.int .i64 4)).alloc (.cells #[.int .i64 k, .string ⟨#[]⟩, .int .i64 0, .int .i64 0, .int .i64 0, .int .i64 0] 35)).alloc (.cells #[.int .i64 k, .string ⟨#[]⟩, .int .i64 0, .int .i64 0, .int .i64 0, .int .i64 0] 35)) ⟨k, E0, 0, 0, 0, 0⟩ from (heap_alloc_old _ _ (by rw [hszW2]; omega)).trans (hszW ▸ heap_alloc_new ((w.setCell ⟨R, 0, none⟩ (.slice A' (n - 1) (c - 1))).setCell ⟨R, 1, none⟩ (.int .i64 4)) (.cells #[.int .i64 k, .string ⟨#[]⟩, .int .i64 0, .int .i64 0, .int .i64 0, .int .i64 0] 35)))
  clear HS7 HB7 HK7 HC37 HC27 hszW hszW2
  clear hB hbr hby hm hl hC hTB hcc hk s1 s2 s4 hlt hn hnt hrow hsz hsz2
  unfold OnePost agg35
  go_enter Tryd.func39, Tryd.ntmps39
  go_wp2
  refine bodyPost_ret (results_cell_row rfl _ _ _ _ _ _ _ rfl HC2.out hu35 rfl size35) rfl ?_
  exact ⟨rfl, HP.out, HB1.out, HK.out⟩
theorem refL1_num (t : List Int) (k0 : Int) : ∃ x y z b1 b2 b3 e1 e2 e3, takeU t = (x, b1, e1) ∧ numL takeU b1 e1 = (y, b2, e2) ∧ numL takeU b2 e2 = (z, b3, e3) ∧ refL1 k0 (takeU t) = (⟨k0, E0, 0, x, y, z⟩, b3, e3) := by
  obtain ⟨x, b1, e1, h1⟩ : ∃ x b1 e1, takeU t = (x, b1, e1) := ⟨_, _, _, rfl⟩
  obtain ⟨y, b2, e2, h2⟩ : ∃ y b2 e2, numL takeU b1 e1 = (y, b2, e2) := ⟨_, _, _, rfl⟩
  obtain ⟨z, b3, e3, h3⟩ : ∃ z b3 e3, numL takeU b2 e2 = (z, b3, e3) := ⟨_, _, _, rfl⟩
  refine ⟨x, y, z, b1, b2, b3, e1, e2, e3, h1, h2, h3, ?_⟩
  rw [h1]
  simp only [refL1]
  rw [h2]
  simp only [refL2]
  rw [h3]
  rfl
/-- one constant, read by the reference -/
theorem one_calls {b : List Int} {base R : Nat} {w0 w : World} (hS : RS base R w b 0) (hby : Bytes b) (hm : b.length ≤ 35184372080000) (hB : Below base w0 w) (hbr : base ≤ R) :
    Calls Tryd.prog 39 #[.pointer (some ⟨R, 0, none⟩)] w (OnePost base R w0 w (oneL b).1 (oneL b).2.1 (oneL b).2.2) := by
  cases b with
  | nil => exact one_nil hS hB hbr
  | cons k t =>
    have ht : Bytes t := fun x hx => hby x (List.mem_cons_of_mem _ hx)
    have hk := hby k List.mem_cons_self
    have hm' : t.length ≤ 35184372080000 := by rw [List.length_cons] at hm; omega
    by_cases h1 : k = 1
    · subst h1
      rw [oneL_1]
      obtain ⟨s, b1, e1, hv⟩ : ∃ s b1 e1, textL t = (s, b1, e1) := ⟨_, _, _, rfl⟩
      rw [hv]; exact one_text hv hS ht hm' hB hbr
    by_cases h2 : k = 2
    · subst h2
      rw [oneL_2 2 (.inl rfl)]
      obtain ⟨s, b1, e1, hv⟩ : ∃ s b1 e1, takeS t = (s, b1, e1) := ⟨_, _, _, rfl⟩
      rw [hv]; exact one_num2 hv hS ht hm' hB hbr
    by_cases h3 : k = 3
    · subst h3
      rw [oneL_2 3 (.inr rfl)]
      obtain ⟨s, b1, e1, hv⟩ : ∃ s b1 e1, takeS t = (s, b1, e1) := ⟨_, _, _, rfl⟩
      rw [hv]; exact one_num3 hv hS ht hm' hB hbr
    by_cases h4 : k = 4
    · subst h4
      rw [oneL_4]
      obtain ⟨s, b1, e1, hv⟩ : ∃ s b1 e1, takeU t = (s, b1, e1) := ⟨_, _, _, rfl⟩
      rw [hv]; exact one_class hv hS ht hm' hB hbr
    by_cases h5 : k = 5
    · subst h5
      obtain ⟨x, y, z, b1, b2, b3, e1, e2, e3, g1, g2, g3, g4⟩ := refL1_num t 5
      rw [oneL_5 5 (.inl rfl), g4]
      exact one_ref5 g1 g2 g3 hS ht hm' hB hbr
    by_cases h6 : k = 6
    · subst h6
      obtain ⟨x, y, z, b1, b2, b3, e1, e2, e3, g1, g2, g3, g4⟩ := refL1_num t 6
      rw [oneL_5 6 (.inr rfl), g4]
      exact one_ref6 g1 g2 g3 hS ht hm' hB hbr
    rw [oneL_7 k (by omega)]; exact one_bad hk.1 hk.2 h1 h2 h3 h4 h5 h6 hS ht hm' hB hbr
end Go.Proofs.YtkhigagkgpfpfaaDoor.Ext.Rf

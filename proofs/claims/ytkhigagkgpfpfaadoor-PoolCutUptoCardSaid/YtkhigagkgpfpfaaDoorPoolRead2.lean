/- The reader of package pool, walked: a text, a number, a class, what refers. -/
import Derived.Test.YtkhigagkgpfpfaaDoorPoolRead
import Derived.Deep.RegionWith
set_option linter.unusedVariables false
set_option linter.unusedSimpArgs false
namespace Go.Proofs.YtkhigagkgpfpfaaDoor.Ext
open Go.RowKit Go.Lib Go.Proofs.YtkhigagkgpfpfaaDoorW.PrintWords Go.Proofs.YtkhigagkgpfpfaaDoorW.PrintLast Go.Proofs.YtkhigagkgpfpfaaDoorW.PrintMore Go.Proofs.YtkhigagkgpfpfaaDoor.PLeb
attribute [local go_sem] max2_int min2_int max_two min_two max_three min_three max_four min_four

/-- a constant's block -/
def CS (C : Nat) (w : World) (x : S35) : Prop :=
  w.heap[C]? = some (.cells #[.int .i64 x.f0, .string x.f1, .int .i64 x.f2, .int .i64 x.f3, .int .i64 x.f4, .int .i64 x.f5] 35 (0, 0))
theorem cs_below {w w1 : World} {C : Nat} {x : S35} (h : CS C w x) (hb : Below w.heap.size w w1) : CS C w1 x := (hb.block C (lt_of_block h)).trans h
theorem cs_keep {w w1 : World} {R C : Nat} {x : S35} (h : CS C w x) (hk : KeepBut w w1 R none) (hne : C ≠ R) : CS C w1 x := (hk.2 C (lt_of_block h) hne (by simp)).trans h
theorem cs_set1 {w : World} {C : Nat} {k n a b d : Int} {s : ByteArray} (h : CS C w ⟨k, s, n, a, b, d⟩) (u : ByteArray) : CS C (w.setCell ⟨C, 1, none⟩ (.string u)) ⟨k, u, n, a, b, d⟩ := cells_set h rfl
theorem cs_set2 {w : World} {C : Nat} {k n a b d : Int} {s : ByteArray} (h : CS C w ⟨k, s, n, a, b, d⟩) (u : Int) : CS C (w.setCell ⟨C, 2, none⟩ (.int .i64 u)) ⟨k, s, u, a, b, d⟩ := cells_set h rfl
theorem cs_set3 {w : World} {C : Nat} {k n a b d : Int} {s : ByteArray} (h : CS C w ⟨k, s, n, a, b, d⟩) (u : Int) : CS C (w.setCell ⟨C, 3, none⟩ (.int .i64 u)) ⟨k, s, n, u, b, d⟩ := cells_set h rfl
theorem cs_set4 {w : World} {C : Nat} {k n a b d : Int} {s : ByteArray} (h : CS C w ⟨k, s, n, a, b, d⟩) (u : Int) : CS C (w.setCell ⟨C, 4, none⟩ (.int .i64 u)) ⟨k, s, n, a, u, d⟩ := cells_set h rfl
theorem cs_set5 {w : World} {C : Nat} {k n a b d : Int} {s : ByteArray} (h : CS C w ⟨k, s, n, a, b, d⟩) (u : Int) : CS C (w.setCell ⟨C, 5, none⟩ (.int .i64 u)) ⟨k, s, n, a, b, u⟩ := cells_set h rfl
theorem cs_far {w : World} {C R : Nat} {x : S35} (h : CS C w x) (hne : C ≠ R) (j : Nat) (u : Value) : CS C (w.setCell ⟨R, j, none⟩ u) x := (Below.heap_setCell w ⟨R, j, none⟩ u C hne).trans h
/-- A row of bytes lies in no block of a constant. -/
theorem c_neC {w : World} {A : Option Addr} {n C : Nat} {b : List Int} {x : S35} (h : Kd.C (Kd.int .u8) w A n b) (hC : CS C w x) : ∀ ad, A = some ad → 0 < n → ad.block ≠ C := by
  intro ad hA hn hb
  obtain ⟨ad', c, e1, hl, hk, hc⟩ := Kd.C_get h 0 0 (by omega) (by omega)
  have hk' : c = [.int .u8 (b.getD (0 : Int).toNat 0)] := hk
  subst hk'
  rw [hA] at e1
  injection e1 with e1
  subst e1
  have h0 : w.cell? ad = some (.int .u8 (b.getD (0 : Int).toNat 0)) := hc 0 _ rfl
  unfold CS at hC
  unfold World.cell? at h0
  rw [hb, hC] at h0
  simp only at h0
  split at h0
  · cases h0
  · generalize ad.off = o at h0
    match o, h0 with
    | 0, h0 => simp at h0
    | 1, h0 => simp at h0
    | 2, h0 => simp at h0
    | 3, h0 => simp at h0
    | 4, h0 => simp at h0
    | 5, h0 => simp at h0
    | o + 6, h0 => simp at h0
theorem rs_far {base : Nat} {w : World} {R C : Nat} {b : List Int} {e : Int} {x : S35} (h : RS base R w b e) (hC : CS C w x) (hne : C ≠ R) (j : Nat) (u : Value) : RS base R (w.setCell ⟨C, j, none⟩ u) b e := by
  obtain ⟨A, c, hR, hl, hr, hT⟩ := h
  exact ⟨A, c, (Below.heap_setCell w ⟨C, j, none⟩ u R (fun h => hne h.symm)).trans hR, hl, Kd.C_keep 0 hr (KeepBut.set_ (KeepBut.refl w C none) j u) (c_neC hr hC), hT.set C j u⟩
theorem keep_weak {w w1 : World} {R : Nat} (h : KeepBut w w1 R none) (C : Nat) : KeepBut w w1 R (some C) := ⟨h.1, fun i hi hg _ => h.2 i hi hg (by simp)⟩
theorem keep_setC {w w1 : World} {R C : Nat} (h : KeepBut w w1 R (some C)) (j : Nat) (u : Value) : KeepBut w (w1.setCell ⟨C, j, none⟩ u) R (some C) :=
  ⟨by simpa [World.setCell] using h.1, fun i hi hg hr => (Below.heap_setCell w1 ⟨C, j, none⟩ u i (fun e => hr (congrArg some e))).trans (h.2 i hi hg hr)⟩
theorem keep_trans {w w1 w2 : World} {R C : Nat} (h : KeepBut w w1 R (some C)) (k : KeepBut w1 w2 R (some C)) : KeepBut w w2 R (some C) := h.trans k (Or.inl rfl)
/-- what a reading leaves -/
def ReadPost (base R C : Nat) (w0 w : World) (x : S35) (b : List Int) (e : Int) (y : Ending) (w' : World) : Prop :=
  y = .returned (.tuple #[]) ∧ RS base R w' b e ∧ CS C w' x ∧ Below base w0 w' ∧ KeepBut w w' R (some C)
set_option maxHeartbeats 4000000 in
set_option maxRecDepth 100000 in
theorem number_calls {b b1 : List Int} {k n1 e1 : Int} {base R C : Nat} {w0 w : World} (hS : RS base R w b 0) (hCS : CS C w ⟨k, E0, 0, 0, 0, 0⟩) (hne : C ≠ R) (hby : Bytes b) (hm : b.length ≤ 100000000000000) (hB : Below base w0 w) (hbr : base ≤ R) (hbc : base ≤ C) (hv : takeS b = (n1, b1, e1)) :
    Calls Tryd.prog 109 #[.pointer (some ⟨R, 0, none⟩), .pointer (some ⟨C, 0, none⟩)] w (ReadPost base R C w0 w ⟨k, E0, n1, 0, 0, 0⟩ b1 e1) := by
  have HN := Aside0.mk (numTakeS_calls hS hby hm hB hbr (show numL takeS b 0 = (n1, b1, e1) by unfold numL; rw [if_pos rfl]; exact hv))
  have HCS := Aside0.mk hCS
  have HBC := Aside0.mk hbc
  clear hS hCS hby hm hB hbr hbc hv
  unfold ReadPost
  go_enter Tryd.func109, Tryd.ntmps109
  go_wp2_with fail
  refine HN.out.mono ?_
  rintro y w1 ⟨rfl, hS1, hB1, hK1⟩
  have hC1 := cs_keep HCS.out hK1 hne
  have d2 : w1.cell? ⟨C, 2, none⟩ = some (.int .i64 0) := cell_of_row _ _ 2 _ _ _ hC1
  have f2 := free_of_cells hC1 2
  have HS := Aside0.mk (rs_far hS1 hC1 hne 2 (.int .i64 n1))
  have HC := Aside0.mk (cs_set2 hC1 n1)
  have HB := Aside0.mk (Below.setCell (p := ⟨C, 2, none⟩) hB1 HBC.out (.int .i64 n1))
  have HK := Aside0.mk (keep_setC (keep_weak hK1 C) 2 (.int .i64 n1))
  clear hS1 hC1 hB1 hK1 HN HCS
  go_wp2
  go_end0
  exact ⟨rfl, HS.out, HC.out, HB.out, HK.out⟩
set_option maxHeartbeats 4000000 in
set_option maxRecDepth 100000 in
theorem class_calls {b b1 : List Int} {k n1 e1 : Int} {base R C : Nat} {w0 w : World} (hS : RS base R w b 0) (hCS : CS C w ⟨k, E0, 0, 0, 0, 0⟩) (hne : C ≠ R) (hby : Bytes b) (hm : b.length ≤ 100000000000000) (hB : Below base w0 w) (hbr : base ≤ R) (hbc : base ≤ C) (hv : takeU b = (n1, b1, e1)) :
    Calls Tryd.prog 106 #[.pointer (some ⟨R, 0, none⟩), .pointer (some ⟨C, 0, none⟩)] w (ReadPost base R C w0 w ⟨k, E0, 0, n1, 0, 0⟩ b1 e1) := by
  have HN := Aside0.mk (numTakeU_calls hS hby hm hB hbr (show numL takeU b 0 = (n1, b1, e1) by unfold numL; rw [if_pos rfl]; exact hv))
  have HCS := Aside0.mk hCS
  have HBC := Aside0.mk hbc
  clear hS hCS hby hm hB hbr hbc hv
  unfold ReadPost
  go_enter Tryd.func106, Tryd.ntmps106
  go_wp2_with fail
  refine HN.out.mono ?_
  rintro y w1 ⟨rfl, hS1, hB1, hK1⟩
  have hC1 := cs_keep HCS.out hK1 hne
  have d2 : w1.cell? ⟨C, 3, none⟩ = some (.int .i64 0) := cell_of_row _ _ 3 _ _ _ hC1
  have f2 := free_of_cells hC1 3
  have HS := Aside0.mk (rs_far hS1 hC1 hne 3 (.int .i64 n1))
  have HC := Aside0.mk (cs_set3 hC1 n1)
  have HB := Aside0.mk (Below.setCell (p := ⟨C, 3, none⟩) hB1 HBC.out (.int .i64 n1))
  have HK := Aside0.mk (keep_setC (keep_weak hK1 C) 3 (.int .i64 n1))
  clear hS1 hC1 hB1 hK1 HN HCS
  go_wp2
  go_end0
  exact ⟨rfl, HS.out, HC.out, HB.out, HK.out⟩
end Go.Proofs.YtkhigagkgpfpfaaDoor.Ext

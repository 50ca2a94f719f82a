/- The Go functions leb.Big, leb.take and warpbeamref01.S, walked by hand: what they compute, as plain functions. -/
import Derived.Test.YtmfipofoeigleaaLebExt
import Derived.Deep.QuietTactic
import Derived.BigQuiet
set_option linter.unusedVariables false
set_option linter.unusedSimpArgs false
namespace Go.Proofs.Ytmfipofoeigleaa.Ext
open Go.RowKit Go.Proofs.YtmfipofoeigleaaW.PrintWords Go.Proofs.YtmfipofoeigleaaW.PrintLast Go.Proofs.YtmfipofoeigleaaW.PrintMore
attribute [local go_sem] max2_int min2_int max_two min_two max_three min_three max_four min_four

/-- a number's bytes, the highest first -/
def bigL (n : Int) (s : Nat) : List Int := (List.range s).map fun j => n / 2 ^ (8 * (s - 1 - j)) % 256
def BigInv (n : Int) (s : Nat) (xs : List Int) (i : Nat) : Prop := xs.length = s ∧ ∀ j, j < i → xs[j]? = some (n / 2 ^ (8 * (s - 1 - j)) % 256)
theorem BigInv.start (n : Int) (s : Nat) : BigInv n s (List.replicate s 0) 0 := ⟨List.length_replicate, fun j hj => by omega⟩
theorem BigInv.step {n : Int} {s : Nat} {xs : List Int} {i : Nat} (h : BigInv n s xs i) (h1 : i < s) : BigInv n s (xs.set i (n / 2 ^ (8 * (s - 1 - i)) % 256)) (i + 1) := by
  obtain ⟨hl, hf⟩ := h
  refine ⟨by rw [List.length_set, hl], fun j hj => ?_⟩
  rw [List.getElem?_set]
  split
  · rename_i hij; subst hij; rw [if_pos (by omega)]
  · exact hf j (by omega)
theorem BigInv.finish {n : Int} {s : Nat} {xs : List Int} {i : Nat} (h : BigInv n s xs i) (h1 : s ≤ i) : xs = bigL n s := by
  obtain ⟨hl, hf⟩ := h
  apply List.ext_getElem?
  intro j
  by_cases hj : j < s
  · rw [hf j (by omega)]; simp [bigL, hj]
  · rw [List.getElem?_eq_none (by omega), List.getElem?_eq_none (by simp [bigL]; omega)]

set_option maxHeartbeats 4000000 in
set_option maxRecDepth 100000 in
theorem big_arg (n size : Int) (w : World) (h : size < 1 ∨ 8 < size) : Calls Try.prog 24 #[.int .i64 n, .int .i64 size] w fun e w' => e = .returned (.tuple #[.slice none 0 0, .int .i64 2]) ∧ w = w' := by
  rcases h with h | h
  · go_enter Try.func24, Try.ntmps24
    go_wp2
    go_ret2
    exact ⟨rfl, rfl⟩
  · have h1 : ¬ size < 1 := by omega
    go_enter Try.func24, Try.ntmps24
    go_wp2
    go_ret2
    exact ⟨rfl, rfl⟩

set_option maxHeartbeats 4000000 in
set_option maxRecDepth 100000 in
theorem big_range (n : Int) (s : Nat) (w : World) (hs : 1 ≤ s) (hs2 : s ≤ 7) (h : n < -(2 ^ (8 * s - 1)) ∨ 2 ^ (8 * s) ≤ n) : Calls Try.prog 24 #[.int .i64 n, .int .i64 (s : Int)] w fun e w' => e = .returned (.tuple #[.slice none 0 0, .int .i64 9]) ∧ w = w' := by
  rcases (show s = 1 ∨ s = 2 ∨ s = 3 ∨ s = 4 ∨ s = 5 ∨ s = 6 ∨ s = 7 by omega) with rfl | rfl | rfl | rfl | rfl | rfl | rfl
  all_goals
    simp only [Nat.reduceMul, Nat.reduceSub, Int.reducePow] at h
    rcases h with h | h
    · go_enter Try.func24, Try.ntmps24
      go_wp2
      go_ret2
      exact ⟨rfl, rfl⟩
    · go_enter Try.func24, Try.ntmps24
      go_wp2
      go_ret2
      exact ⟨rfl, rfl⟩

set_option maxHeartbeats 8000000 in
set_option maxRecDepth 100000 in
theorem big_ok1 (n : Int) (w : World) (hr0 : -128 ≤ n) (hr1 : n < 256) :
    Calls Try.prog 24 #[.int .i64 n, .int .i64 1] w fun e w' => ∃ v0_ : Value, e = .returned (.tuple #[v0_, .int .i64 0]) ∧ Kd.R (Kd.int .u8) 5 w' w.heap.size (fun _ => True) v0_ (bigL n 1) ∧ Below w.heap.size w w' := by
  obtain ⟨C0, hC0⟩ : ∃ C : Array Value, madeCells #[.int .u8 0] 1 = C := ⟨_, rfl⟩
  have hmk0 : ∀ W : World, (Instr.makeSlice 22 (.int .i64 1) (.int .i64 1)).run Try.prog W = .ok (.slice (some ⟨W.heap.size, 0, none⟩) 1 1) (W.alloc (.cells C0 5)) := by
    rw [← hC0]; exact print_make (P := Try.prog) 22 5 .u8 1 Try.underlying22 info5 (by decide) 1 (by omega)
  have HOWN := Aside0.mk (show (w.alloc (.cells C0 5)).ownsRow w.heap.size 5 1 (.slice (some ⟨w.heap.size, 0, none⟩) 1 1) 1 (nums .u8 (List.replicate 1 0)) by
    rw [← hC0]; exact own_made w w.heap.size 5 .u8 1 (Nat.le_refl _) (by omega))
  have HF0 := Aside0.mk (BigInv.start n 1)
  obtain ⟨X0, hX0⟩ : ∃ X : List Int, List.replicate 1 0 = X := ⟨_, rfl⟩
  rw [hX0] at HOWN HF0
  have HB := Aside0.mk (Below.refl w.heap.size w)
  clear hC0 hX0
  go_enter Try.func24, Try.ntmps24
  go_wp2
  clear hmk0
  go_loopw [37] (fun iv wr => ∃ (i : Nat) (xs : List Int), i ≤ 1 ∧ iv = .int .i64 (i : Int) ∧ Aside0 (wr.ownsRow w.heap.size 5 1 (.slice (some ⟨w.heap.size, 0, none⟩) 1 1) 1 (nums .u8 xs)) ∧ Aside0 (BigInv n 1 xs i) ∧ Aside0 (Below w.heap.size w wr))
    (fun iv _ => 1 - (intOf iv).toNat)
  case atStart => exact ⟨0, X0, by omega, rfl, HOWN, HF0, ⟨below_alloc HB.out _⟩⟩
  case round =>
    obtain ⟨i, xs, hi1, rfl, HO, HF, HB'⟩ := hrel
    by_cases hlt : i < 1
    · obtain rfl : i = 0 := by omega
      have ev : n / 2 ^ (8 * (1 - 1 - 0)) % 256 = n % 256 := by simp
      obtain ⟨hcell, hfr⟩ := own_at HO.out 0 (by omega) (by omega)
      have HS := own_store HO.out 0 (n % 256)
      simp only [Int.toNat_zero] at hcell hfr HS
      have HS1 := Aside0.mk HS.1
      have HF1 := Aside0.mk (HF.out.step hlt)
      rw [ev] at HF1
      clear HS ev
      go_wp2
      go_roundw
      case rel => exact ⟨1, xs.set 0 (n % 256), by omega, rfl, HS1, HF1, ⟨HB'.out.setCell (Nat.le_refl _) _⟩⟩
      case measure => simp [intOf]
    · have e := HF.out.finish (by omega)
      have hlz : ¬ (i : Int) < 1 := by omega
      have HR := Aside0.mk (Kd.R_of_own (enc := Value.int .u8) (h1 := fun _ => rfl) (ok := fun _ => True) (show wr.ownsRow w.heap.size 5 1 (.slice (some ⟨w.heap.size, 0, none⟩) 1 1) xs.length (encs (Value.int .u8) xs) by rw [HF.out.1]; exact HO.out) (fun _ _ => trivial))
      rw [e] at HR
      clear e
      go_wp2
      go_ret2
      exact ⟨_, rfl, HR.out, HB'.out⟩

set_option maxHeartbeats 8000000 in
set_option maxRecDepth 100000 in
theorem big_ok2 (n : Int) (w : World) (hr0 : -32768 ≤ n) (hr1 : n < 65536) :
    Calls Try.prog 24 #[.int .i64 n, .int .i64 2] w fun e w' => ∃ v0_ : Value, e = .returned (.tuple #[v0_, .int .i64 0]) ∧ Kd.R (Kd.int .u8) 5 w' w.heap.size (fun _ => True) v0_ (bigL n 2) ∧ Below w.heap.size w w' := by
  obtain ⟨C0, hC0⟩ : ∃ C : Array Value, madeCells #[.int .u8 0] 2 = C := ⟨_, rfl⟩
  have hmk0 : ∀ W : World, (Instr.makeSlice 22 (.int .i64 2) (.int .i64 2)).run Try.prog W = .ok (.slice (some ⟨W.heap.size, 0, none⟩) 2 2) (W.alloc (.cells C0 5)) := by
    rw [← hC0]; exact print_make (P := Try.prog) 22 5 .u8 1 Try.underlying22 info5 (by decide) 2 (by omega)
  have HOWN := Aside0.mk (show (w.alloc (.cells C0 5)).ownsRow w.heap.size 5 1 (.slice (some ⟨w.heap.size, 0, none⟩) 2 2) 2 (nums .u8 (List.replicate 2 0)) by
    rw [← hC0]; exact own_made w w.heap.size 5 .u8 2 (Nat.le_refl _) (by omega))
  have HF0 := Aside0.mk (BigInv.start n 2)
  obtain ⟨X0, hX0⟩ : ∃ X : List Int, List.replicate 2 0 = X := ⟨_, rfl⟩
  rw [hX0] at HOWN HF0
  have HB := Aside0.mk (Below.refl w.heap.size w)
  clear hC0 hX0
  go_enter Try.func24, Try.ntmps24
  go_wp2
  clear hmk0
  go_loopw [37] (fun iv wr => ∃ (i : Nat) (xs : List Int), i ≤ 2 ∧ iv = .int .i64 (i : Int) ∧ Aside0 (wr.ownsRow w.heap.size 5 1 (.slice (some ⟨w.heap.size, 0, none⟩) 2 2) 2 (nums .u8 xs)) ∧ Aside0 (BigInv n 2 xs i) ∧ Aside0 (Below w.heap.size w wr))
    (fun iv _ => 2 - (intOf iv).toNat)
  case atStart => exact ⟨0, X0, by omega, rfl, HOWN, HF0, ⟨below_alloc HB.out _⟩⟩
  case round =>
    obtain ⟨i, xs, hi1, rfl, HO, HF, HB'⟩ := hrel
    by_cases hlt : i < 2
    · have hlz : (i : Int) < 2 := by omega
      obtain ⟨hcell, hfr⟩ := own_at HO.out (i : Int) (by omega) (by omega)
      rw [Int.toNat_natCast] at hcell hfr
      have HS := own_store HO.out (i : Int) (n / 2 ^ (8 * (2 - 1 - i)) % 256)
      rw [Int.toNat_natCast] at HS
      have HS1 := Aside0.mk HS.1
      clear HS
      go_wp2
      go_roundw
      case rel => exact ⟨i + 1, xs.set i (n / 2 ^ (8 * (2 - 1 - i)) % 256), by omega, by go_num, HS1, ⟨HF.out.step hlt⟩, ⟨HB'.out.setCell (Nat.le_refl _) _⟩⟩
      case measure => simp [intOf]; omega
    · have e := HF.out.finish (by omega)
      have hlz : ¬ (i : Int) < 2 := by omega
      have HR := Aside0.mk (Kd.R_of_own (enc := Value.int .u8) (h1 := fun _ => rfl) (ok := fun _ => True) (show wr.ownsRow w.heap.size 5 1 (.slice (some ⟨w.heap.size, 0, none⟩) 2 2) xs.length (encs (Value.int .u8) xs) by rw [HF.out.1]; exact HO.out) (fun _ _ => trivial))
      rw [e] at HR
      clear e
      go_wp2
      go_ret2
      exact ⟨_, rfl, HR.out, HB'.out⟩

set_option maxHeartbeats 8000000 in
set_option maxRecDepth 100000 in
theorem big_ok3 (n : Int) (w : World) (hr0 : -8388608 ≤ n) (hr1 : n < 16777216) :
    Calls Try.prog 24 #[.int .i64 n, .int .i64 3] w fun e w' => ∃ v0_ : Value, e = .returned (.tuple #[v0_, .int .i64 0]) ∧ Kd.R (Kd.int .u8) 5 w' w.heap.size (fun _ => True) v0_ (bigL n 3) ∧ Below w.heap.size w w' := by
  obtain ⟨C0, hC0⟩ : ∃ C : Array Value, madeCells #[.int .u8 0] 3 = C := ⟨_, rfl⟩
  have hmk0 : ∀ W : World, (Instr.makeSlice 22 (.int .i64 3) (.int .i64 3)).run Try.prog W = .ok (.slice (some ⟨W.heap.size, 0, none⟩) 3 3) (W.alloc (.cells C0 5)) := by
    rw [← hC0]; exact print_make (P := Try.prog) 22 5 .u8 1 Try.underlying22 info5 (by decide) 3 (by omega)
  have HOWN := Aside0.mk (show (w.alloc (.cells C0 5)).ownsRow w.heap.size 5 1 (.slice (some ⟨w.heap.size, 0, none⟩) 3 3) 3 (nums .u8 (List.replicate 3 0)) by
    rw [← hC0]; exact own_made w w.heap.size 5 .u8 3 (Nat.le_refl _) (by omega))
  have HF0 := Aside0.mk (BigInv.start n 3)
  obtain ⟨X0, hX0⟩ : ∃ X : List Int, List.replicate 3 0 = X := ⟨_, rfl⟩
  rw [hX0] at HOWN HF0
  have HB := Aside0.mk (Below.refl w.heap.size w)
  clear hC0 hX0
  go_enter Try.func24, Try.ntmps24
  go_wp2
  clear hmk0
  go_loopw [37] (fun iv wr => ∃ (i : Nat) (xs : List Int), i ≤ 3 ∧ iv = .int .i64 (i : Int) ∧ Aside0 (wr.ownsRow w.heap.size 5 1 (.slice (some ⟨w.heap.size, 0, none⟩) 3 3) 3 (nums .u8 xs)) ∧ Aside0 (BigInv n 3 xs i) ∧ Aside0 (Below w.heap.size w wr))
    (fun iv _ => 3 - (intOf iv).toNat)
  case atStart => exact ⟨0, X0, by omega, rfl, HOWN, HF0, ⟨below_alloc HB.out _⟩⟩
  case round =>
    obtain ⟨i, xs, hi1, rfl, HO, HF, HB'⟩ := hrel
    by_cases hlt : i < 3
    · have hlz : (i : Int) < 3 := by omega
      obtain ⟨hcell, hfr⟩ := own_at HO.out (i : Int) (by omega) (by omega)
      rw [Int.toNat_natCast] at hcell hfr
      have HS := own_store HO.out (i : Int) (n / 2 ^ (8 * (3 - 1 - i)) % 256)
      rw [Int.toNat_natCast] at HS
      have HS1 := Aside0.mk HS.1
      clear HS
      go_wp2
      go_roundw
      case rel => exact ⟨i + 1, xs.set i (n / 2 ^ (8 * (3 - 1 - i)) % 256), by omega, by go_num, HS1, ⟨HF.out.step hlt⟩, ⟨HB'.out.setCell (Nat.le_refl _) _⟩⟩
      case measure => simp [intOf]; omega
    · have e := HF.out.finish (by omega)
      have hlz : ¬ (i : Int) < 3 := by omega
      have HR := Aside0.mk (Kd.R_of_own (enc := Value.int .u8) (h1 := fun _ => rfl) (ok := fun _ => True) (show wr.ownsRow w.heap.size 5 1 (.slice (some ⟨w.heap.size, 0, none⟩) 3 3) xs.length (encs (Value.int .u8) xs) by rw [HF.out.1]; exact HO.out) (fun _ _ => trivial))
      rw [e] at HR
      clear e
      go_wp2
      go_ret2
      exact ⟨_, rfl, HR.out, HB'.out⟩

set_option maxHeartbeats 8000000 in
set_option maxRecDepth 100000 in
theorem big_ok4 (n : Int) (w : World) (hr0 : -2147483648 ≤ n) (hr1 : n < 4294967296) :
    Calls Try.prog 24 #[.int .i64 n, .int .i64 4] w fun e w' => ∃ v0_ : Value, e = .returned (.tuple #[v0_, .int .i64 0]) ∧ Kd.R (Kd.int .u8) 5 w' w.heap.size (fun _ => True) v0_ (bigL n 4) ∧ Below w.heap.size w w' := by
  obtain ⟨C0, hC0⟩ : ∃ C : Array Value, madeCells #[.int .u8 0] 4 = C := ⟨_, rfl⟩
  have hmk0 : ∀ W : World, (Instr.makeSlice 22 (.int .i64 4) (.int .i64 4)).run Try.prog W = .ok (.slice (some ⟨W.heap.size, 0, none⟩) 4 4) (W.alloc (.cells C0 5)) := by
    rw [← hC0]; exact print_make (P := Try.prog) 22 5 .u8 1 Try.underlying22 info5 (by decide) 4 (by omega)
  have HOWN := Aside0.mk (show (w.alloc (.cells C0 5)).ownsRow w.heap.size 5 1 (.slice (some ⟨w.heap.size, 0, none⟩) 4 4) 4 (nums .u8 (List.replicate 4 0)) by
    rw [← hC0]; exact own_made w w.heap.size 5 .u8 4 (Nat.le_refl _) (by omega))
  have HF0 := Aside0.mk (BigInv.start n 4)
  obtain ⟨X0, hX0⟩ : ∃ X : List Int, List.replicate 4 0 = X := ⟨_, rfl⟩
  rw [hX0] at HOWN HF0
  have HB := Aside0.mk (Below.refl w.heap.size w)
  clear hC0 hX0
  go_enter Try.func24, Try.ntmps24
  go_wp2
  clear hmk0
  go_loopw [37] (fun iv wr => ∃ (i : Nat) (xs : List Int), i ≤ 4 ∧ iv = .int .i64 (i : Int) ∧ Aside0 (wr.ownsRow w.heap.size 5 1 (.slice (some ⟨w.heap.size, 0, none⟩) 4 4) 4 (nums .u8 xs)) ∧ Aside0 (BigInv n 4 xs i) ∧ Aside0 (Below w.heap.size w wr))
    (fun iv _ => 4 - (intOf iv).toNat)
  case atStart => exact ⟨0, X0, by omega, rfl, HOWN, HF0, ⟨below_alloc HB.out _⟩⟩
  case round =>
    obtain ⟨i, xs, hi1, rfl, HO, HF, HB'⟩ := hrel
    by_cases hlt : i < 4
    · have hlz : (i : Int) < 4 := by omega
      obtain ⟨hcell, hfr⟩ := own_at HO.out (i : Int) (by omega) (by omega)
      rw [Int.toNat_natCast] at hcell hfr
      have HS := own_store HO.out (i : Int) (n / 2 ^ (8 * (4 - 1 - i)) % 256)
      rw [Int.toNat_natCast] at HS
      have HS1 := Aside0.mk HS.1
      clear HS
      go_wp2
      go_roundw
      case rel => exact ⟨i + 1, xs.set i (n / 2 ^ (8 * (4 - 1 - i)) % 256), by omega, by go_num, HS1, ⟨HF.out.step hlt⟩, ⟨HB'.out.setCell (Nat.le_refl _) _⟩⟩
      case measure => simp [intOf]; omega
    · have e := HF.out.finish (by omega)
      have hlz : ¬ (i : Int) < 4 := by omega
      have HR := Aside0.mk (Kd.R_of_own (enc := Value.int .u8) (h1 := fun _ => rfl) (ok := fun _ => True) (show wr.ownsRow w.heap.size 5 1 (.slice (some ⟨w.heap.size, 0, none⟩) 4 4) xs.length (encs (Value.int .u8) xs) by rw [HF.out.1]; exact HO.out) (fun _ _ => trivial))
      rw [e] at HR
      clear e
      go_wp2
      go_ret2
      exact ⟨_, rfl, HR.out, HB'.out⟩

set_option maxHeartbeats 8000000 in
set_option maxRecDepth 100000 in
theorem big_ok5 (n : Int) (w : World) (hr0 : -549755813888 ≤ n) (hr1 : n < 1099511627776) :
    Calls Try.prog 24 #[.int .i64 n, .int .i64 5] w fun e w' => ∃ v0_ : Value, e = .returned (.tuple #[v0_, .int .i64 0]) ∧ Kd.R (Kd.int .u8) 5 w' w.heap.size (fun _ => True) v0_ (bigL n 5) ∧ Below w.heap.size w w' := by
  obtain ⟨C0, hC0⟩ : ∃ C : Array Value, madeCells #[.int .u8 0] 5 = C := ⟨_, rfl⟩
  have hmk0 : ∀ W : World, (Instr.makeSlice 22 (.int .i64 5) (.int .i64 5)).run Try.prog W = .ok (.slice (some ⟨W.heap.size, 0, none⟩) 5 5) (W.alloc (.cells C0 5)) := by
    rw [← hC0]; exact print_make (P := Try.prog) 22 5 .u8 1 Try.underlying22 info5 (by decide) 5 (by omega)
  have HOWN := Aside0.mk (show (w.alloc (.cells C0 5)).ownsRow w.heap.size 5 1 (.slice (some ⟨w.heap.size, 0, none⟩) 5 5) 5 (nums .u8 (List.replicate 5 0)) by
    rw [← hC0]; exact own_made w w.heap.size 5 .u8 5 (Nat.le_refl _) (by omega))
  have HF0 := Aside0.mk (BigInv.start n 5)
  obtain ⟨X0, hX0⟩ : ∃ X : List Int, List.replicate 5 0 = X := ⟨_, rfl⟩
  rw [hX0] at HOWN HF0
  have HB := Aside0.mk (Below.refl w.heap.size w)
  clear hC0 hX0
  go_enter Try.func24, Try.ntmps24
  go_wp2
  clear hmk0
  go_loopw [37] (fun iv wr => ∃ (i : Nat) (xs : List Int), i ≤ 5 ∧ iv = .int .i64 (i : Int) ∧ Aside0 (wr.ownsRow w.heap.size 5 1 (.slice (some ⟨w.heap.size, 0, none⟩) 5 5) 5 (nums .u8 xs)) ∧ Aside0 (BigInv n 5 xs i) ∧ Aside0 (Below w.heap.size w wr))
    (fun iv _ => 5 - (intOf iv).toNat)
  case atStart => exact ⟨0, X0, by omega, rfl, HOWN, HF0, ⟨below_alloc HB.out _⟩⟩
  case round =>
    obtain ⟨i, xs, hi1, rfl, HO, HF, HB'⟩ := hrel
    by_cases hlt : i < 5
    · have hlz : (i : Int) < 5 := by omega
      obtain ⟨hcell, hfr⟩ := own_at HO.out (i : Int) (by omega) (by omega)
      rw [Int.toNat_natCast] at hcell hfr
      have HS := own_store HO.out (i : Int) (n / 2 ^ (8 * (5 - 1 - i)) % 256)
      rw [Int.toNat_natCast] at HS
      have HS1 := Aside0.mk HS.1
      clear HS
      go_wp2
      go_roundw
      case rel => exact ⟨i + 1, xs.set i (n / 2 ^ (8 * (5 - 1 - i)) % 256), by omega, by go_num, HS1, ⟨HF.out.step hlt⟩, ⟨HB'.out.setCell (Nat.le_refl _) _⟩⟩
      case measure => simp [intOf]; omega
    · have e := HF.out.finish (by omega)
      have hlz : ¬ (i : Int) < 5 := by omega
      have HR := Aside0.mk (Kd.R_of_own (enc := Value.int .u8) (h1 := fun _ => rfl) (ok := fun _ => True) (show wr.ownsRow w.heap.size 5 1 (.slice (some ⟨w.heap.size, 0, none⟩) 5 5) xs.length (encs (Value.int .u8) xs) by rw [HF.out.1]; exact HO.out) (fun _ _ => trivial))
      rw [e] at HR
      clear e
      go_wp2
      go_ret2
      exact ⟨_, rfl, HR.out, HB'.out⟩

set_option maxHeartbeats 8000000 in
set_option maxRecDepth 100000 in
theorem big_ok6 (n : Int) (w : World) (hr0 : -140737488355328 ≤ n) (hr1 : n < 281474976710656) :
    Calls Try.prog 24 #[.int .i64 n, .int .i64 6] w fun e w' => ∃ v0_ : Value, e = .returned (.tuple #[v0_, .int .i64 0]) ∧ Kd.R (Kd.int .u8) 5 w' w.heap.size (fun _ => True) v0_ (bigL n 6) ∧ Below w.heap.size w w' := by
  obtain ⟨C0, hC0⟩ : ∃ C : Array Value, madeCells #[.int .u8 0] 6 = C := ⟨_, rfl⟩
  have hmk0 : ∀ W : World, (Instr.makeSlice 22 (.int .i64 6) (.int .i64 6)).run Try.prog W = .ok (.slice (some ⟨W.heap.size, 0, none⟩) 6 6) (W.alloc (.cells C0 5)) := by
    rw [← hC0]; exact print_make (P := Try.prog) 22 5 .u8 1 Try.underlying22 info5 (by decide) 6 (by omega)
  have HOWN := Aside0.mk (show (w.alloc (.cells C0 5)).ownsRow w.heap.size 5 1 (.slice (some ⟨w.heap.size, 0, none⟩) 6 6) 6 (nums .u8 (List.replicate 6 0)) by
    rw [← hC0]; exact own_made w w.heap.size 5 .u8 6 (Nat.le_refl _) (by omega))
  have HF0 := Aside0.mk (BigInv.start n 6)
  obtain ⟨X0, hX0⟩ : ∃ X : List Int, List.replicate 6 0 = X := ⟨_, rfl⟩
  rw [hX0] at HOWN HF0
  have HB := Aside0.mk (Below.refl w.heap.size w)
  clear hC0 hX0
  go_enter Try.func24, Try.ntmps24
  go_wp2
  clear hmk0
  go_loopw [37] (fun iv wr => ∃ (i : Nat) (xs : List Int), i ≤ 6 ∧ iv = .int .i64 (i : Int) ∧ Aside0 (wr.ownsRow w.heap.size 5 1 (.slice (some ⟨w.heap.size, 0, none⟩) 6 6) 6 (nums .u8 xs)) ∧ Aside0 (BigInv n 6 xs i) ∧ Aside0 (Below w.heap.size w wr))
    (fun iv _ => 6 - (intOf iv).toNat)
  case atStart => exact ⟨0, X0, by omega, rfl, HOWN, HF0, ⟨below_alloc HB.out _⟩⟩
  case round =>
    obtain ⟨i, xs, hi1, rfl, HO, HF, HB'⟩ := hrel
    by_cases hlt : i < 6
    · have hlz : (i : Int) < 6 := by omega
      obtain ⟨hcell, hfr⟩ := own_at HO.out (i : Int) (by omega) (by omega)
      rw [Int.toNat_natCast] at hcell hfr
      have HS := own_store HO.out (i : Int) (n / 2 ^ (8 * (6 - 1 - i)) % 256)
      rw [Int.toNat_natCast] at HS
      have HS1 := Aside0.mk HS.1
      clear HS
      go_wp2
      go_roundw
      case rel => exact ⟨i + 1, xs.set i (n / 2 ^ (8 * (6 - 1 - i)) % 256), by omega, by go_num, HS1, ⟨HF.out.step hlt⟩, ⟨HB'.out.setCell (Nat.le_refl _) _⟩⟩
      case measure => simp [intOf]; omega
    · have e := HF.out.finish (by omega)
      have hlz : ¬ (i : Int) < 6 := by omega
      have HR := Aside0.mk (Kd.R_of_own (enc := Value.int .u8) (h1 := fun _ => rfl) (ok := fun _ => True) (show wr.ownsRow w.heap.size 5 1 (.slice (some ⟨w.heap.size, 0, none⟩) 6 6) xs.length (encs (Value.int .u8) xs) by rw [HF.out.1]; exact HO.out) (fun _ _ => trivial))
      rw [e] at HR
      clear e
      go_wp2
      go_ret2
      exact ⟨_, rfl, HR.out, HB'.out⟩

set_option maxHeartbeats 8000000 in
set_option maxRecDepth 100000 in
theorem big_ok7 (n : Int) (w : World) (hr0 : -36028797018963968 ≤ n) (hr1 : n < 72057594037927936) :
    Calls Try.prog 24 #[.int .i64 n, .int .i64 7] w fun e w' => ∃ v0_ : Value, e = .returned (.tuple #[v0_, .int .i64 0]) ∧ Kd.R (Kd.int .u8) 5 w' w.heap.size (fun _ => True) v0_ (bigL n 7) ∧ Below w.heap.size w w' := by
  obtain ⟨C0, hC0⟩ : ∃ C : Array Value, madeCells #[.int .u8 0] 7 = C := ⟨_, rfl⟩
  have hmk0 : ∀ W : World, (Instr.makeSlice 22 (.int .i64 7) (.int .i64 7)).run Try.prog W = .ok (.slice (some ⟨W.heap.size, 0, none⟩) 7 7) (W.alloc (.cells C0 5)) := by
    rw [← hC0]; exact print_make (P := Try.prog) 22 5 .u8 1 Try.underlying22 info5 (by decide) 7 (by omega)
  have HOWN := Aside0.mk (show (w.alloc (.cells C0 5)).ownsRow w.heap.size 5 1 (.slice (some ⟨w.heap.size, 0, none⟩) 7 7) 7 (nums .u8 (List.replicate 7 0)) by
    rw [← hC0]; exact own_made w w.heap.size 5 .u8 7 (Nat.le_refl _) (by omega))
  have HF0 := Aside0.mk (BigInv.start n 7)
  obtain ⟨X0, hX0⟩ : ∃ X : List Int, List.replicate 7 0 = X := ⟨_, rfl⟩
  rw [hX0] at HOWN HF0
  have HB := Aside0.mk (Below.refl w.heap.size w)
  clear hC0 hX0
  go_enter Try.func24, Try.ntmps24
  go_wp2
  clear hmk0
  go_loopw [37] (fun iv wr => ∃ (i : Nat) (xs : List Int), i ≤ 7 ∧ iv = .int .i64 (i : Int) ∧ Aside0 (wr.ownsRow w.heap.size 5 1 (.slice (some ⟨w.heap.size, 0, none⟩) 7 7) 7 (nums .u8 xs)) ∧ Aside0 (BigInv n 7 xs i) ∧ Aside0 (Below w.heap.size w wr))
    (fun iv _ => 7 - (intOf iv).toNat)
  case atStart => exact ⟨0, X0, by omega, rfl, HOWN, HF0, ⟨below_alloc HB.out _⟩⟩
  case round =>
    obtain ⟨i, xs, hi1, rfl, HO, HF, HB'⟩ := hrel
    by_cases hlt : i < 7
    · have hlz : (i : Int) < 7 := by omega
      obtain ⟨hcell, hfr⟩ := own_at HO.out (i : Int) (by omega) (by omega)
      rw [Int.toNat_natCast] at hcell hfr
      have HS := own_store HO.out (i : Int) (n / 2 ^ (8 * (7 - 1 - i)) % 256)
      rw [Int.toNat_natCast] at HS
      have HS1 := Aside0.mk HS.1
      clear HS
      go_wp2
      go_roundw
      case rel => exact ⟨i + 1, xs.set i (n / 2 ^ (8 * (7 - 1 - i)) % 256), by omega, by go_num, HS1, ⟨HF.out.step hlt⟩, ⟨HB'.out.setCell (Nat.le_refl _) _⟩⟩
      case measure => simp [intOf]; omega
    · have e := HF.out.finish (by omega)
      have hlz : ¬ (i : Int) < 7 := by omega
      have HR := Aside0.mk (Kd.R_of_own (enc := Value.int .u8) (h1 := fun _ => rfl) (ok := fun _ => True) (show wr.ownsRow w.heap.size 5 1 (.slice (some ⟨w.heap.size, 0, none⟩) 7 7) xs.length (encs (Value.int .u8) xs) by rw [HF.out.1]; exact HO.out) (fun _ _ => trivial))
      rw [e] at HR
      clear e
      go_wp2
      go_ret2
      exact ⟨_, rfl, HR.out, HB'.out⟩

set_option maxHeartbeats 8000000 in
set_option maxRecDepth 100000 in
theorem big_ok8 (n : Int) (w : World) :
    Calls Try.prog 24 #[.int .i64 n, .int .i64 8] w fun e w' => ∃ v0_ : Value, e = .returned (.tuple #[v0_, .int .i64 0]) ∧ Kd.R (Kd.int .u8) 5 w' w.heap.size (fun _ => True) v0_ (bigL n 8) ∧ Below w.heap.size w w' := by
  obtain ⟨C0, hC0⟩ : ∃ C : Array Value, madeCells #[.int .u8 0] 8 = C := ⟨_, rfl⟩
  have hmk0 : ∀ W : World, (Instr.makeSlice 22 (.int .i64 8) (.int .i64 8)).run Try.prog W = .ok (.slice (some ⟨W.heap.size, 0, none⟩) 8 8) (W.alloc (.cells C0 5)) := by
    rw [← hC0]; exact print_make (P := Try.prog) 22 5 .u8 1 Try.underlying22 info5 (by decide) 8 (by omega)
  have HOWN := Aside0.mk (show (w.alloc (.cells C0 5)).ownsRow w.heap.size 5 1 (.slice (some ⟨w.heap.size, 0, none⟩) 8 8) 8 (nums .u8 (List.replicate 8 0)) by
    rw [← hC0]; exact own_made w w.heap.size 5 .u8 8 (Nat.le_refl _) (by omega))
  have HF0 := Aside0.mk (BigInv.start n 8)
  obtain ⟨X0, hX0⟩ : ∃ X : List Int, List.replicate 8 0 = X := ⟨_, rfl⟩
  rw [hX0] at HOWN HF0
  have HB := Aside0.mk (Below.refl w.heap.size w)
  clear hC0 hX0
  go_enter Try.func24, Try.ntmps24
  go_wp2
  clear hmk0
  go_loopw [37] (fun iv wr => ∃ (i : Nat) (xs : List Int), i ≤ 8 ∧ iv = .int .i64 (i : Int) ∧ Aside0 (wr.ownsRow w.heap.size 5 1 (.slice (some ⟨w.heap.size, 0, none⟩) 8 8) 8 (nums .u8 xs)) ∧ Aside0 (BigInv n 8 xs i) ∧ Aside0 (Below w.heap.size w wr))
    (fun iv _ => 8 - (intOf iv).toNat)
  case atStart => exact ⟨0, X0, by omega, rfl, HOWN, HF0, ⟨below_alloc HB.out _⟩⟩
  case round =>
    obtain ⟨i, xs, hi1, rfl, HO, HF, HB'⟩ := hrel
    by_cases hlt : i < 8
    · have hlz : (i : Int) < 8 := by omega
      obtain ⟨hcell, hfr⟩ := own_at HO.out (i : Int) (by omega) (by omega)
      rw [Int.toNat_natCast] at hcell hfr
      have HS := own_store HO.out (i : Int) (n / 2 ^ (8 * (8 - 1 - i)) % 256)
      rw [Int.toNat_natCast] at HS
      have HS1 := Aside0.mk HS.1
      clear HS
      go_wp2
      go_roundw
      case rel => exact ⟨i + 1, xs.set i (n / 2 ^ (8 * (8 - 1 - i)) % 256), by omega, by go_num, HS1, ⟨HF.out.step hlt⟩, ⟨HB'.out.setCell (Nat.le_refl _) _⟩⟩
      case measure => simp [intOf]; omega
    · have e := HF.out.finish (by omega)
      have hlz : ¬ (i : Int) < 8 := by omega
      have HR := Aside0.mk (Kd.R_of_own (enc := Value.int .u8) (h1 := fun _ => rfl) (ok := fun _ => True) (show wr.ownsRow w.heap.size 5 1 (.slice (some ⟨w.heap.size, 0, none⟩) 8 8) xs.length (encs (Value.int .u8) xs) by rw [HF.out.1]; exact HO.out) (fun _ _ => trivial))
      rw [e] at HR
      clear e
      go_wp2
      go_ret2
      exact ⟨_, rfl, HR.out, HB'.out⟩

theorem big_ok (n : Int) (s : Nat) (w : World) (hs : 1 ≤ s) (hs2 : s ≤ 8) (h : s = 8 ∨ -(2 ^ (8 * s - 1)) ≤ n ∧ n < 2 ^ (8 * s)) :
    Calls Try.prog 24 #[.int .i64 n, .int .i64 (s : Int)] w fun e w' => ∃ v0_ : Value, e = .returned (.tuple #[v0_, .int .i64 0]) ∧ Kd.R (Kd.int .u8) 5 w' w.heap.size (fun _ => True) v0_ (bigL n s) ∧ Below w.heap.size w w' := by
  rcases (show s = 1 ∨ s = 2 ∨ s = 3 ∨ s = 4 ∨ s = 5 ∨ s = 6 ∨ s = 7 ∨ s = 8 by omega) with rfl | rfl | rfl | rfl | rfl | rfl | rfl | rfl
  · simp only [Nat.reduceMul, Nat.reduceSub, Int.reducePow, Nat.reduceEqDiff, false_or] at h; exact big_ok1 n w h.1 h.2
  · simp only [Nat.reduceMul, Nat.reduceSub, Int.reducePow, Nat.reduceEqDiff, false_or] at h; exact big_ok2 n w h.1 h.2
  · simp only [Nat.reduceMul, Nat.reduceSub, Int.reducePow, Nat.reduceEqDiff, false_or] at h; exact big_ok3 n w h.1 h.2
  · simp only [Nat.reduceMul, Nat.reduceSub, Int.reducePow, Nat.reduceEqDiff, false_or] at h; exact big_ok4 n w h.1 h.2
  · simp only [Nat.reduceMul, Nat.reduceSub, Int.reducePow, Nat.reduceEqDiff, false_or] at h; exact big_ok5 n w h.1 h.2
  · simp only [Nat.reduceMul, Nat.reduceSub, Int.reducePow, Nat.reduceEqDiff, false_or] at h; exact big_ok6 n w h.1 h.2
  · simp only [Nat.reduceMul, Nat.reduceSub, Int.reducePow, Nat.reduceEqDiff, false_or] at h; exact big_ok7 n w h.1 h.2
  · exact big_ok8 n w
def bigF (n size : Int) : List Int × Int :=
  if size < 1 ∨ 8 < size then ([], 2) else if size < 8 ∧ (n < -(2 ^ (8 * size.toNat - 1)) ∨ 2 ^ (8 * size.toNat) ≤ n) then ([], 9) else (bigL n size.toNat, 0)
/-- 'leb.Big', in the form of the print. -/
def leb_Big.f (a0 : Int) (a1 : Int) : Option (List Int × Int) := some (bigF a0 a1)
theorem leb_Big.calls (a0 : Int) (a1 : Int) (r1 : List Int) (r2 : Int) (w : World) (h : leb_Big.f a0 a1 = some (r1, r2)) :
    Calls Try.prog 24 #[.int .i64 a0, .int .i64 a1] w fun e w' => ∃ v0_ : Value, e = .returned (.tuple #[v0_, .int .i64 r2]) ∧ Kd.R (Kd.int .u8) 5 w' w.heap.size (fun _ => True) v0_ r1 ∧ Below w.heap.size w w' := by
  have e := Option.some.inj h
  unfold bigF at e
  by_cases h1 : a1 < 1 ∨ 8 < a1
  · rw [if_pos h1] at e
    obtain ⟨rfl, rfl⟩ : [] = r1 ∧ 2 = r2 := by simpa using e
    refine (big_arg a0 a1 w h1).mono ?_
    rintro e w' ⟨rfl, rfl⟩
    exact ⟨_, rfl, Kd.R_nil _ _ _ _ _, Below.refl _ _⟩
  · rw [if_neg h1] at e
    obtain ⟨s, rfl⟩ : ∃ s : Nat, a1 = (s : Int) := ⟨a1.toNat, by omega⟩
    rw [Int.toNat_natCast] at e
    by_cases h2 : (s : Int) < 8 ∧ (a0 < -(2 ^ (8 * s - 1)) ∨ 2 ^ (8 * s) ≤ a0)
    · rw [if_pos h2] at e
      obtain ⟨rfl, rfl⟩ : [] = r1 ∧ 9 = r2 := by simpa using e
      refine (big_range a0 s w (by omega) (by omega) h2.2).mono ?_
      rintro e w' ⟨rfl, rfl⟩
      exact ⟨_, rfl, Kd.R_nil _ _ _ _ _, Below.refl _ _⟩
    · rw [if_neg h2] at e
      obtain ⟨rfl, rfl⟩ : bigL a0 s = r1 ∧ 0 = r2 := by simpa using e
      refine (big_ok a0 s w (by omega) (by omega) ?_)
      by_cases h8 : s = 8
      · exact .inl h8
      · exact .inr (by omega)
/-- the highest byte first -/
def hv : Int → List Int → Int
  | n, [] => n
  | n, c :: t => hv ((n * 256 + c) % 18446744073709551616) t
theorem u64_byte (x c : Int) (hx0 : 0 ≤ x) (hx : x < 18446744073709551616) (hc0 : 0 ≤ c) (hc : c ≤ 255) : bits .or .u64 (x * 256 % 18446744073709551616) c = (x * 256 + c) % 18446744073709551616 := by
  have h := (u64_join 8 c x (by omega) hc0 (by omega) hx0).1
  rw [show (2 : Int) ^ 8 = 256 by rfl] at h
  rw [u64_or _ _ (by omega) (by omega) hc0 (by omega), Nat.or_comm]
  rw [u64_or _ _ hc0 (by omega) (by omega) (by omega)] at h
  rw [h]; congr 1; omega
def TakeInv (l : List Int) (s : Nat) (n : Int) (i : Nat) : Prop := 0 ≤ n ∧ n < 18446744073709551616 ∧ hv n ((l.take s).drop i) = hv 0 (l.take s)
theorem TakeInv.start (l : List Int) (s : Nat) : TakeInv l s 0 0 := ⟨by omega, by omega, rfl⟩
theorem TakeInv.step {l : List Int} {s : Nat} {n : Int} {i : Nat} (h : TakeInv l s n i) (h1 : i < s) (h2 : s ≤ l.length) : TakeInv l s ((n * 256 + rd (l.take s) (i : Int)) % 18446744073709551616) (i + 1) := by
  obtain ⟨a, b, e⟩ := h
  refine ⟨by omega, by omega, ?_⟩
  rw [← e, drop_rd (l.take s) i (by rw [List.length_take]; omega)]; rfl
theorem TakeInv.finish {l : List Int} {s : Nat} {n : Int} {i : Nat} (h : TakeInv l s n i) (h1 : s ≤ i) : n = hv 0 (l.take s) := by
  obtain ⟨a, b, e⟩ := h
  rw [List.drop_eq_nil_of_le (by rw [List.length_take]; omega)] at e
  exact e
set_option maxHeartbeats 4000000 in
set_option maxRecDepth 100000 in
theorem take_bad (l : List Int) (A : Option Addr) (c : Nat) (size most : Int) (w : World) (hm : l.length ≤ 9223372036854775807) (h : size < 1 ∨ most < size ∨ l.length < size) :
    Calls Try.prog 38 #[.slice A l.length c, .int .i64 size, .int .i64 most] w fun e w' => e = .returned (.tuple #[.int .u64 0, .slice none 0 0, .int .i64 (if size < 1 ∨ most < size then 2 else 3)]) ∧ w = w' := by
  by_cases h1 : size < 1
  · rw [if_pos (.inl h1)]
    go_enter Try.func38, Try.ntmps38
    go_wp2
    go_ret3
    exact ⟨rfl, rfl⟩
  · by_cases h2 : most < size
    · rw [if_pos (.inr h2)]
      go_enter Try.func38, Try.ntmps38
      go_wp2
      go_ret3
      exact ⟨rfl, rfl⟩
    · rw [if_neg (by omega)]
      have h3 : (l.length : Int) < size := by omega
      clear h
      go_enter Try.func38, Try.ntmps38
      go_wp2
      go_ret3
      exact ⟨rfl, rfl⟩
set_option maxHeartbeats 8000000 in
set_option maxRecDepth 100000 in
theorem take_ok (l : List Int) (A : Option Addr) (c s : Nat) (most : Int) (w : World) (hby : ∀ x ∈ l, 0 ≤ x ∧ x ≤ 255) (hr : Kd.C (Kd.int .u8) w A l.length l) (hc : l.length ≤ c) (hlen : l.length < 140737488355328) (h1 : 1 ≤ s) (h2 : (s : Int) ≤ most) (h3 : s ≤ l.length) :
    Calls Try.prog 38 #[.slice A l.length c, .int .i64 (s : Int), .int .i64 most] w fun e w' => ∃ v1_ : Value, e = .returned (.tuple #[.int .u64 (hv 0 (l.take s)), v1_, .int .i64 0]) ∧ Kd.R (Kd.int .u8) 5 w' w.heap.size (fun _ => True) v1_ (l.drop s) ∧ Below w.heap.size w w' := by
  obtain ⟨i0, hi0, hz0, hz1, hz2⟩ := info_parts info5
  have hcut0 : ∀ W : World, (Instr.slice 22 (.slice A l.length c) none (some (.int .i64 (s : Int))) none).run Try.prog W = .ok (.slice A s c) W :=
    cut_to 22 5 .i64 Try.underlying22 hi0 A l.length c (s : Int) (Int.natCast_nonneg _) (by omega) hc
  obtain ⟨A1, hcut1, hC1⟩ : ∃ A1 : Option Addr, (∀ W : World, (Instr.slice 22 (.slice A l.length c) (some (.int .i64 (s : Int))) none none).run Try.prog W = .ok (.slice A1 (l.length - s) (c - s)) W) ∧ Kd.C (Kd.int .u8) w A1 (l.drop s).length (l.drop s) :=
    ⟨_, cut_from 22 5 .i64 Try.underlying22 hi0 1 hz1 A l.length c (s : Int) (Int.natCast_nonneg _) (by omega), Kd.C_drop hr h3 hc⟩
  have lT : (l.take s).length = s := by rw [List.length_take]; omega
  have lD : (l.drop s).length = l.length - s := List.length_drop
  have RT : Kd.C (Kd.int .u8) w A s (l.take s) := by have h := Kd.C_take hr h3; rw [lT] at h; exact h
  have bT : ∀ x ∈ l.take s, 0 ≤ x ∧ x ≤ 255 := fun x hx => hby x (List.mem_of_mem_take hx)
  have HRT := Aside0.mk RT
  have HBT := Aside0.mk bT
  have HCL := Aside0.mk ((slices_Clone_byte_byte.calls A1 (c - s) (l.drop s) (l.drop s) w hC1 (by rw [lD]; omega) (by unfold slices_Clone_byte_byte.f; rw [if_pos (by rw [lD]; omega)])))
  rw [lD] at HCL
  have HV0 := Aside0.mk (TakeInv.start l s)
  obtain ⟨V, hV⟩ : ∃ V, hv 0 (l.take s) = V := ⟨_, rfl⟩
  rw [hV]
  have HVV := Aside0.mk hV
  clear hV
  have HL := Aside0.mk h3
  clear hr hby lT lD RT bT hC1 hi0 hz0 hz1 hz2
  go_enter Try.func38, Try.ntmps38
  go_wp2
  clear hcut0
  go_loopw [6, 28] (fun nv iv wr => ∃ (i : Nat) (n : Int), i ≤ s ∧ nv = .int .u64 n ∧ iv = .int .i64 (i : Int) ∧ w = wr ∧ 0 ≤ n ∧ n < 18446744073709551616 ∧ Aside0 (TakeInv l s n i))
    (fun _ iv _ => s - (intOf iv).toNat)
  case atStart => exact ⟨0, 0, by omega, rfl, rfl, rfl, by omega, by omega, HV0⟩
  case round =>
    obtain ⟨i, n, hi, rfl, rfl, rfl, hn0, hn1, HI⟩ := hrel
    by_cases hlt : i < s
    · have hlz : (i : Int) < (s : Int) := by omega
      obtain ⟨ad, e, hcell⟩ := Kd.at_int HRT.out (i : Int) (by omega) hlz
      cases e
      rw [Int.toNat_natCast] at hcell
      have hz := rd_in HBT.out (i : Int)
      obtain ⟨hz0, hz1⟩ := hz
      have HU := Aside0.mk (u64_byte n (rd (l.take s) (i : Int)) hn0 hn1 hz0 hz1)
      have HS := Aside0.mk (HI.out.step hlt HL.out)
      obtain ⟨z, hz⟩ : ∃ z, rd (l.take s) (i : Int) = z := ⟨_, rfl⟩
      rw [hz] at hcell hz0 hz1 HU HS
      clear hz
      go_wp2
      go_roundw
      case rel => exact ⟨i + 1, (n * 256 + z) % 18446744073709551616, by omega, (by rw [← HU.out]; rfl), by go_num, (by first | rfl | trivial), by omega, by omega, HS⟩
      case measure => simp [intOf]; omega
    · have hlz : ¬ (i : Int) < (s : Int) := by omega
      have e := (HI.out.finish (by omega)).trans HVV.out
      subst e
      go_wp2_with fail
      refine HCL.out.mono ?_
      rintro e w' ⟨v, rfl, ho, hb⟩
      go_wp2
      go_ret3
      exact ⟨_, rfl, ho, hb⟩
def takeF (l : List Int) (size most : Int) : Int × List Int × Int :=
  if size < 1 ∨ most < size then (0, [], 2) else if (l.length : Int) < size then (0, [], 3) else (hv 0 (l.take size.toNat), l.drop size.toNat, 0)
/-- 'leb.take', in the form of the print. -/
def leb_take.f (l0 : List Int) (a1 : Int) (a2 : Int) : Option (Int × List Int × Int) := if l0.length < 140737488355328 ∧ ∀ x ∈ l0, 0 ≤ x ∧ x ≤ 255 then some (takeF l0 a1 a2) else none
theorem leb_take.calls (A0 : Option Addr) (c0 : Nat) (l0 : List Int) (a1 : Int) (a2 : Int) (r1 : Int) (r2 : List Int) (r3 : Int) (w : World) (hr0 : Kd.C (Kd.int .u8) w A0 l0.length l0) (hc0 : l0.length ≤ c0) (h : leb_take.f l0 a1 a2 = some (r1, r2, r3)) :
    Calls Try.prog 38 #[.slice A0 l0.length c0, .int .i64 a1, .int .i64 a2] w fun e w' => ∃ v1_ : Value, e = .returned (.tuple #[.int .u64 r1, v1_, .int .i64 r3]) ∧ Kd.R (Kd.int .u8) 5 w' w.heap.size (fun _ => True) v1_ r2 ∧ Below w.heap.size w w' := by
  unfold leb_take.f at h
  split at h
  · rename_i hg
    have e := Option.some.inj h
    unfold takeF at e
    by_cases h1 : a1 < 1 ∨ a2 < a1 ∨ (l0.length : Int) < a1
    · refine (take_bad l0 A0 c0 a1 a2 w (by omega) h1).mono ?_
      rintro e2 w' ⟨rfl, rfl⟩
      by_cases h2 : a1 < 1 ∨ a2 < a1
      · rw [if_pos h2] at e
        obtain ⟨rfl, rfl, rfl⟩ : 0 = r1 ∧ [] = r2 ∧ 2 = r3 := by simpa using e
        rw [if_pos h2]
        exact ⟨_, rfl, Kd.R_nil _ _ _ _ _, Below.refl _ _⟩
      · rw [if_neg h2, if_pos (by omega)] at e
        obtain ⟨rfl, rfl, rfl⟩ : 0 = r1 ∧ [] = r2 ∧ 3 = r3 := by simpa using e
        rw [if_neg h2]
        exact ⟨_, rfl, Kd.R_nil _ _ _ _ _, Below.refl _ _⟩
    · rw [if_neg (by omega), if_neg (by omega)] at e
      obtain ⟨s, rfl⟩ : ∃ s : Nat, a1 = (s : Int) := ⟨a1.toNat, by omega⟩
      rw [Int.toNat_natCast] at e
      obtain ⟨rfl, rfl, rfl⟩ : hv 0 (l0.take s) = r1 ∧ l0.drop s = r2 ∧ 0 = r3 := by simpa using e
      exact take_ok l0 A0 c0 s a2 w hg.2 hr0 hc0 hg.1 (by omega) (by omega) (by omega)
  · cases h

def SInv (n : Int) (m : Int) (out : List Int) : Prop := out ++ sb m = sb n ∧ out.length + (sb m).length ≤ 10
theorem SInv.step {n m : Int} {out : List Int} (h : SInv n m out) (hm : ¬ (-64 ≤ m ∧ m < 64)) : SInv n (m / 128) (out ++ [m % 128 + 128]) := by
  obtain ⟨e, hl⟩ := h
  rw [sb, if_neg hm] at e hl
  rw [List.length_cons] at hl
  exact ⟨by rw [List.append_assoc]; exact e, by rw [List.length_append, List.length_cons, List.length_nil]; omega⟩
theorem SInv.finish {n m : Int} {out : List Int} (h : SInv n m out) (hm : -64 ≤ m ∧ m < 64) : out ++ [m % 128] = sb n := by
  obtain ⟨e, _⟩ := h
  rw [sb, if_pos hm] at e
  exact e
set_option maxHeartbeats 16000000 in
set_option maxRecDepth 100000 in
theorem refS_calls (n : Int) (w : World) (h0 : -9223372036854775808 ≤ n) (h1 : n ≤ 9223372036854775807) :
    Calls Try.prog 21 #[.int .i64 n] w fun e w' => ∃ v0_ : Value, e = .returned (v0_) ∧ Kd.R (Kd.int .u8) 5 w' w.heap.size (fun _ => True) v0_ (sb n) ∧ Below w.heap.size w w' := by
  obtain ⟨V, hV⟩ : ∃ V, sb n = V := ⟨_, rfl⟩
  rw [hV]
  have HI0 := Aside0.mk (show SInv n n [] ∧ sb n = V from ⟨⟨rfl, by have := sb_len 9 n (by omega) (by omega); simp; omega⟩, hV⟩)
  have HB := Aside0.mk (Below.refl w.heap.size w)
  clear hV
  go_enter Try.func21, Try.ntmps21
  go_wp2
  go_loopw [0, 3] (fun nv ov wr => ∃ (m : Int) (out : List Int) (v : Value), v = ov ∧ nv = .int .i64 m ∧ -9223372036854775808 ≤ m ∧ m ≤ 9223372036854775807 ∧ Aside0 (wr.ownsRow w.heap.size 5 1 v out.length (nums .u8 out)) ∧ Aside0 (SInv n m out ∧ sb n = V) ∧ Aside0 (Below w.heap.size w wr))
    (fun nv _ _ => (intOf nv).natAbs)
  case atStart => exact ⟨n, [], _, rfl, rfl, h0, h1, ⟨own_nil _ _ _ _⟩, HI0, HB⟩
  case round =>
    obtain ⟨m, out, v, rfl, rfl, hm0, hm1, HO, HI, HB'⟩ := hrel
    have ba := i64_and127 m
    have hl := HI.out.1.2
    have hp := (sb_form m).pos
    have HL := Aside0.mk (show out.length + 1 ≤ 140737488355328 by omega)
    clear hl hp
    by_cases hA : -64 ≤ m ∧ m < 64
    · have e := HI.out.1.finish hA
      rw [HI.out.2] at e
      have HE := Aside0.mk e
      clear e
      obtain ⟨hA0, hA1⟩ := hA
      rcases Int.lt_or_le m 0 with hs | hs
      · skip
        have q1 : ((m / 128) == 0) = false := beq_eq_false_iff_ne.2 (by omega)
        have q2 : ((m / 128) == -1) = true := beq_iff_eq.2 (by omega)
        have q3 : ¬ (m % 128 < 64) := by omega
        have q4 : (64 : Int) ≤ m % 128 := by omega
        go_wp2_with (at_builtin; refine print_append_num (w0 := w) w.heap.size rfl _ _ 22 5 .u8 1 rfl Try.underlying22 info5 (by decide) v out (m % 128) rfl rfl HO.out HB'.out (below_size HB'.out) (by have := HL.out; omega) ?_; intro v1 w5 ho hb hg hat; have HO1 := Aside0.mk ho; have HB1 := Aside0.mk hb; clear ho hb hg hat)
        go_ret
        have HR := Kd.R_of_own (enc := Value.int .u8) (h1 := fun _ => rfl) (ok := fun _ => True) HO1.out (fun _ _ => trivial)
        rw [HE.out] at HR
        exact ⟨_, rfl, HR, HB1.out⟩
      · skip
        have q1 : ((m / 128) == 0) = true := beq_iff_eq.2 (by omega)
        have q3 : m % 128 < 64 := by omega
        go_wp2_with (at_builtin; refine print_append_num (w0 := w) w.heap.size rfl _ _ 22 5 .u8 1 rfl Try.underlying22 info5 (by decide) v out (m % 128) rfl rfl HO.out HB'.out (below_size HB'.out) (by have := HL.out; omega) ?_; intro v1 w5 ho hb hg hat; have HO1 := Aside0.mk ho; have HB1 := Aside0.mk hb; clear ho hb hg hat)
        go_ret
        have HR := Kd.R_of_own (enc := Value.int .u8) (h1 := fun _ => rfl) (ok := fun _ => True) HO1.out (fun _ _ => trivial)
        rw [HE.out] at HR
        exact ⟨_, rfl, HR, HB1.out⟩
    · have HS := Aside0.mk (And.intro (HI.out.1.step hA) HI.out.2)
      rcases (show (m / 128 ≠ 0 ∧ m / 128 ≠ -1) ∨ (64 ≤ m ∧ m < 128) ∨ (-128 ≤ m ∧ m < -64) by omega) with hB | hB | hB
      · obtain ⟨hB0, hB1⟩ := hB
        have q1 : ((m / 128) == 0) = false := beq_eq_false_iff_ne.2 hB0
        have q2 : ((m / 128) == -1) = false := beq_eq_false_iff_ne.2 hB1
        clear hB0 hB1
        go_wp2_with (at_builtin; refine print_append_num (w0 := w) w.heap.size rfl _ _ 22 5 .u8 1 rfl Try.underlying22 info5 (by decide) v out (m % 128 + 128) rfl rfl HO.out HB'.out (below_size HB'.out) (by have := HL.out; omega) ?_; intro v1 w5 ho hb hg hat; have HO1 := Aside0.mk ho; have HB1 := Aside0.mk hb; clear ho hb hg hat)
        go_roundw
        case rel => exact ⟨m / 128, out ++ [m % 128 + 128], _, rfl, rfl, by omega, by omega, HO1, HS, HB1⟩
        case measure => simp [intOf]; omega
      · obtain ⟨hB0, hB1⟩ := hB
        have q1 : ((m / 128) == 0) = true := beq_iff_eq.2 (by omega)
        have q2 : ((m / 128) == -1) = false := beq_eq_false_iff_ne.2 (by omega)
        have q3 : ¬ (m % 128 < 64) := by omega
        go_wp2_with (at_builtin; refine print_append_num (w0 := w) w.heap.size rfl _ _ 22 5 .u8 1 rfl Try.underlying22 info5 (by decide) v out (m % 128 + 128) rfl rfl HO.out HB'.out (below_size HB'.out) (by have := HL.out; omega) ?_; intro v1 w5 ho hb hg hat; have HO1 := Aside0.mk ho; have HB1 := Aside0.mk hb; clear ho hb hg hat)
        go_roundw
        case rel => exact ⟨m / 128, out ++ [m % 128 + 128], _, rfl, rfl, by omega, by omega, HO1, HS, HB1⟩
        case measure => simp [intOf]; omega
      · obtain ⟨hB0, hB1⟩ := hB
        have q1 : ((m / 128) == 0) = false := beq_eq_false_iff_ne.2 (by omega)
        have q2 : ((m / 128) == -1) = true := beq_iff_eq.2 (by omega)
        have q3 : ¬ ((64 : Int) ≤ m % 128) := by omega
        go_wp2_with (at_builtin; refine print_append_num (w0 := w) w.heap.size rfl _ _ 22 5 .u8 1 rfl Try.underlying22 info5 (by decide) v out (m % 128 + 128) rfl rfl HO.out HB'.out (below_size HB'.out) (by have := HL.out; omega) ?_; intro v1 w5 ho hb hg hat; have HO1 := Aside0.mk ho; have HB1 := Aside0.mk hb; clear ho hb hg hat)
        go_roundw
        case rel => exact ⟨m / 128, out ++ [m % 128 + 128], _, rfl, rfl, by omega, by omega, HO1, HS, HB1⟩
        case measure => simp [intOf]; omega
/-- 'warpbeamref01.S', in the form of the print. -/
def R1_S.f (a0 : Int) : Option (List Int) := if -9223372036854775808 ≤ a0 ∧ a0 ≤ 9223372036854775807 then some (sb a0) else none
theorem R1_S.calls (a0 : Int) (r : List Int) (w : World) (h : R1_S.f a0 = some r) :
    Calls Try.prog 21 #[.int .i64 a0] w fun e w' => ∃ v0_ : Value, e = .returned (v0_) ∧ Kd.R (Kd.int .u8) 5 w' w.heap.size (fun _ => True) v0_ r ∧ Below w.heap.size w w' := by
  unfold R1_S.f at h
  split at h
  · rename_i hg
    obtain rfl := Option.some.inj h
    exact refS_calls a0 w hg.1 hg.2
  · cases h
end Go.Proofs.Ytmfipofoeigleaa.Ext

/- The laws AdlerPieces, AdlerHalves and AdlerKnown, walked by hand over the contracts of adler.Of and adler.On: each returns true and leaves what was there. -/
import Derived.Test.YtbigjbedogaknaaPAdlerOnex1
import Derived.OpenShut
set_option linter.unusedVariables false
set_option linter.unusedSimpArgs false
namespace Go.Proofs.Ytbigjbedogaknaa.Ext
open Go.RowKit Go.Proofs.YtbigjbedogaknaaW.PrintWords Go.Proofs.YtbigjbedogaknaaW.PrintLast Go.Proofs.YtbigjbedogaknaaW.PrintMore
attribute [local go_sem] max2_int min2_int max_two min_two max_three min_three max_four min_four

/-- 'On' at a row of n bytes, its value under a name. -/
theorem On_n (f : Int) (l : List Int) (v : Int) (A : Option Addr) (n c : Nat) (w : World) (hv : adlV f l = v) (hn : l.length = n) (hf : 0 ≤ f ∧ f < 4294967296) (hby : ∀ x ∈ l, 0 ≤ x ∧ x ≤ 255) (hr : Kd.C (Kd.int .u8) w A n l) (hc : n ≤ c) :
    Calls Try.prog 12 #[.int .u32 f, .slice A n c] w fun e w' => e = .returned (.int .u32 v) ∧ Below w.heap.size w w' := by
  subst hn; subst hv; exact On_calls f l A c w hf hby hr hc
theorem Of_n (l : List Int) (v : Int) (A : Option Addr) (n c : Nat) (w : World) (hv : adlV 1 l = v) (hn : l.length = n) (hby : ∀ x ∈ l, 0 ≤ x ∧ x ≤ 255) (hr : Kd.C (Kd.int .u8) w A n l) (hc : n ≤ c) :
    Calls Try.prog 10 #[.slice A n c] w fun e w' => e = .returned (.int .u32 v) ∧ Below w.heap.size w w' := by
  subst hn; exact Of_lit l v A l.length c w hv rfl hby hr hc
theorem copy_n (l : List Int) (A : Option Addr) (n c : Nat) (w : World) (hn : l.length = n) (hm : l.length ≤ 140737488351232) (hr : Kd.C (Kd.int .u8) w A n l) (hc : n ≤ c) :
    Calls Try.prog 9 #[.slice A n c] w fun e w' => ∃ v0_ : Value, e = .returned (v0_) ∧ Kd.R (Kd.int .u8) 5 w' w.heap.size (fun _ => True) v0_ l ∧ Below w.heap.size w w' := by
  subst hn
  exact PAdlerOne.warpbeamref00_CopyBytes.calls A c l l w hr hc (by unfold PAdlerOne.warpbeamref00_CopyBytes.f; rw [if_pos (by simp only [List.length_nil]; omega)]; rfl)
/-- a slice's beginning -/
theorem cut_n (A : Option Addr) (n c m : Nat) (hm : m ≤ n) (hc : n ≤ c) : ∀ W : World, (Instr.slice 23 (.slice A n c) none (some (.int .i64 (m : Int))) none).run Try.prog W = .ok (.slice A m c) W := by
  obtain ⟨i0, hi, _, _, _⟩ := info_parts info5
  exact cut_to 23 5 .i64 Try.underlying23 hi A n c (m : Int) (Int.natCast_nonneg _) (by omega) hc
theorem min_n (n k : Nat) : ∃ m : Nat, (if (k : Int) < (n : Int) then (k : Int) else (n : Int)) = (m : Int) ∧ m ≤ n ∧ m ≤ k := by
  by_cases h : (k : Int) < (n : Int)
  · exact ⟨k, by rw [if_pos h], by omega, by omega⟩
  · exact ⟨n, by rw [if_neg h], by omega, by omega⟩

set_option maxHeartbeats 8000000 in
set_option maxRecDepth 100000 in
theorem pieces_walk (a0 : Option Addr) (len0 cap0 : Nat) (z0 : List Int) (a1 : Option Addr) (len1 cap1 : Nat) (z1 : List Int) (a2 : Int) (w : World)
    (w0 : (a0 = none ∧ len0 = 0 ∧ cap0 = 0 ∧ z0 = []) ∨ ∃ x, a0 = some x ∧ len0 ≤ cap0 ∧ cap0 ≤ maxLen ∧ z0.length = cap0 ∧ (∀ i, i < z0.length → w.cell? (x.add i) = some (.int .u8 (z0.getD i 0))) ∧ ∀ n ∈ z0, (Lit.int .u8 n).wf = true) (y0 : len0 * 1 ≤ 140737488351232)
    (w1 : (a1 = none ∧ len1 = 0 ∧ cap1 = 0 ∧ z1 = []) ∨ ∃ x, a1 = some x ∧ len1 ≤ cap1 ∧ cap1 ≤ maxLen ∧ z1.length = cap1 ∧ (∀ i, i < z1.length → w.cell? (x.add i) = some (.int .u8 (z1.getD i 0))) ∧ ∀ n ∈ z1, (Lit.int .u8 n).wf = true) (y1 : len1 * 1 ≤ 140737488351232)
    (w2 : (Lit.int .u32 a2).wf = true) :
    Calls Try.prog 4 #[.slice a0 len0 cap0, .slice a1 len1 cap1, .int .u32 a2] w fun e w' => e = .returned (.bool true) ∧ Below w.heap.size w w' := by
  obtain ⟨l0, rfl, hr0, hm0, hw0, hc0⟩ := ReadsInt.ofRowC w0
  obtain ⟨l1, rfl, hr1, hm1, hw1, hc1⟩ := ReadsInt.ofRowC w1
  have HR0 := Aside0.mk (Kd.C_of_reads (d := (0 : Int)) (h1 := fun _ => rfl) hr0)
  have HR1 := Aside0.mk (Kd.C_of_reads (d := (0 : Int)) (h1 := fun _ => rfl) hr1)
  have hs := bounds_u32 w2
  obtain ⟨m0, hm0e', hm0a, hm0b⟩ := min_n l0.length 20000
  obtain ⟨m1, hm1e', hm1a, hm1b⟩ := min_n l1.length 20000
  have hm0e : (if (20000 : Int) < (l0.length : Int) then (20000 : Int) else (l0.length : Int)) = (m0 : Int) := hm0e'
  have hm1e : (if (20000 : Int) < (l1.length : Int) then (20000 : Int) else (l1.length : Int)) = (m1 : Int) := hm1e'
  clear hm0e' hm1e'
  have hcut0 := cut_n a0 l0.length cap0 m0 hm0a hc0
  have hcut1 := cut_n a1 l1.length cap1 m1 hm1a hc1
  obtain ⟨A, hA⟩ : ∃ A, l0.take m0 = A := ⟨_, rfl⟩
  obtain ⟨B, hB⟩ : ∃ B, l1.take m1 = B := ⟨_, rfl⟩
  have lA : A.length = m0 := by rw [← hA, List.length_take]; omega
  have lB : B.length = m1 := by rw [← hB, List.length_take]; omega
  have bA : ∀ x ∈ A, 0 ≤ x ∧ x ≤ 255 := fun x hx => bounds_u8 (hw0 x (by rw [← hA] at hx; exact List.mem_of_mem_take hx))
  have bB : ∀ x ∈ B, 0 ≤ x ∧ x ≤ 255 := fun x hx => bounds_u8 (hw1 x (by rw [← hB] at hx; exact List.mem_of_mem_take hx))
  have bAB : ∀ x ∈ A ++ B, 0 ≤ x ∧ x ≤ 255 := fun x hx => by rcases List.mem_append.1 hx with h | h; exact bA x h; exact bB x h
  have RA : Kd.C (Kd.int .u8) w a0 m0 A := by have h := Kd.C_take HR0.out hm0a; rw [hA, lA] at h; exact h
  have RB : Kd.C (Kd.int .u8) w a1 m1 B := by have h := Kd.C_take HR1.out hm1a; rw [hB, lB] at h; exact h
  have r1 := adlV_range 1 (by omega) A
  have r2 := adlV_range a2 hs.1 A
  have r3 := adlV_range a2 hs.1 (A ++ B)
  have e1 := adlV_append 1 (by omega) A B
  have e2 := adlV_append a2 hs.1 A B
  obtain ⟨vA, hvA⟩ : ∃ v, adlV 1 A = v := ⟨_, rfl⟩
  obtain ⟨vS, hvS⟩ : ∃ v, adlV a2 A = v := ⟨_, rfl⟩
  obtain ⟨vT, hvT⟩ : ∃ v, adlV 1 (A ++ B) = v := ⟨_, rfl⟩
  obtain ⟨vX, hvX⟩ : ∃ v, adlV a2 (A ++ B) = v := ⟨_, rfl⟩
  rw [hvA] at r1 e1; rw [hvS] at r2 e2; rw [hvX] at r3 e2; rw [hvT] at e1
  have F := Aside0.mk (show (A.length = m0 ∧ B.length = m1 ∧ (A ++ B).length = m0 + m1) ∧ (∀ x ∈ A, 0 ≤ x ∧ x ≤ 255) ∧ (∀ x ∈ B, 0 ≤ x ∧ x ≤ 255) ∧ (∀ x ∈ A ++ B, 0 ≤ x ∧ x ≤ 255) ∧ adlV 1 A = vA ∧ adlV a2 A = vS ∧ adlV 1 (A ++ B) = vT ∧ adlV a2 (A ++ B) = vX ∧ adlV vA B = vT ∧ adlV vS B = vX from ⟨⟨lA, lB, by rw [List.length_append, lA, lB]⟩, bA, bB, bAB, hvA, hvS, hvT, hvX, e1, e2⟩)
  have HRA := Aside0.mk RA
  have HRB := Aside0.mk RB
  have HC := Aside0.mk (show m0 ≤ cap0 ∧ m1 ≤ cap1 by omega)
  obtain ⟨r10, r11, _, _⟩ := r1
  obtain ⟨r20, r21, _, _⟩ := r2
  obtain ⟨r30, r31, r32, r33⟩ := r3
  obtain ⟨hs0, hs1⟩ := hs
  have HB := Aside0.mk (Below.refl w.heap.size w)
  clear hr0 hr1 hm0 hm1 hw0 hw1 hc0 hc1 w0 w1 w2 lA lB bA bB bAB RA RB e1 e2 hvA hvS hvT hvX hA hB y0 y1 HR0 HR1
  go_enter Try.func4, Try.ntmps4
  go_wp2_with fail
  refine (works_calls _).mono ?_
  rintro e w3 ⟨rfl, hb⟩
  have n0_ := Aside0.mk (below_step HB.out hb); clear HB hb; have HB := n0_; clear n0_
  go_wp2_with fail
  go_quiet (fail)
  have n0_ := Aside0.mk (pw_below_drewN HB.out nq); clear HB; have HB := n0_; clear n0_
  go_wp2_with fail
  refine (copy_n A a0 m0 cap0 _ F.out.1.1 (by have := F.out.1.1; omega) (Kd.C_below HRA.out HB.out) HC.out.1).mono ?_
  rintro e w4 ⟨v, rfl, ho, hb⟩
  have HO := Aside0.mk (Kd.R_lower ho (below_size HB.out))
  have n0_ := Aside0.mk (below_step HB.out hb); clear HB hb ho; have HB := n0_; clear n0_
  go_wp2_with (at_builtin; refine Kd.R_append_rows (Kd.int .u8) (w0 := w) w.heap.size rfl _ _ 23 5 (.int .u8 0) 1 rfl Try.underlying23 info5 rfl (by decide) (by omega) v A B a1 m1 cap1 (fun _ => True) (fun _ => False) rfl rfl HO.out (Kd.C_below HRB.out HB.out) (fun _ _ h => h) (fun _ h => h.elim) (fun _ _ => trivial) HB.out (below_size HB.out) (by have := F.out.1.1; omega) ?_; intro v1 w5 ho hb hg hat; obtain ⟨A1, c1, rfl, hl1, hC1⟩ := Kd.R_reads ho; have HAB := Aside0.mk (And.intro hl1 hC1); have n0_ := Aside0.mk hb; clear HB; have HB := n0_; clear n0_ ho hb hg hat hl1 hC1 HO)
  have n5_ := Aside0.mk (Below.refl w5.heap.size w5)
  have HW := n5_; clear n5_
  refine (On_n a2 (A ++ B) vX A1 (A.length + B.length) c1 _ F.out.2.2.2.2.2.2.2.1 List.length_append ⟨hs0, by omega⟩ F.out.2.2.2.1 (by have h := HAB.out.2; rw [List.length_append] at h; exact h) (by have h := HAB.out.1; rw [List.length_append] at h; exact h)).mono ?_
  rintro e w6 ⟨rfl, hb⟩
  have n0_ := Aside0.mk (below_step HB.out hb); have n1_ := Aside0.mk (below_step HW.out hb); clear HB HW hb; have HB := n0_; have HW := n1_; clear n0_ n1_
  go_wp2_with fail
  refine (Of_n A vA a0 m0 cap0 _ F.out.2.2.2.2.1 F.out.1.1 F.out.2.1 (Kd.C_below HRA.out HB.out) HC.out.1).mono ?_
  rintro e w7 ⟨rfl, hb⟩
  have n0_ := Aside0.mk (below_step HB.out hb); have n1_ := Aside0.mk (below_step HW.out hb); clear HB HW hb; have HB := n0_; have HW := n1_; clear n0_ n1_
  go_wp2_with fail
  refine (On_n vA B vT a1 m1 cap1 _ F.out.2.2.2.2.2.2.2.2.1 F.out.1.2.1 ⟨r10, by omega⟩ F.out.2.2.1 (Kd.C_below HRB.out HB.out) HC.out.2).mono ?_
  rintro e w8 ⟨rfl, hb⟩
  have n0_ := Aside0.mk (below_step HB.out hb); have n1_ := Aside0.mk (below_step HW.out hb); clear HB HW hb; have HB := n0_; have HW := n1_; clear n0_ n1_
  go_wp2_with fail
  refine (Of_n (A ++ B) vT A1 (A.length + B.length) c1 _ F.out.2.2.2.2.2.2.1 List.length_append F.out.2.2.2.1 (by have h := Kd.C_below HAB.out.2 HW.out; rw [List.length_append] at h; exact h) (by have h := HAB.out.1; rw [List.length_append] at h; exact h)).mono ?_
  rintro e w9 ⟨rfl, hb⟩
  have n0_ := Aside0.mk (below_step HB.out hb); have n1_ := Aside0.mk (below_step HW.out hb); clear HB HW hb; have HB := n0_; have HW := n1_; clear n0_ n1_
  go_wp2_with fail
  refine (On_n a2 A vS a0 m0 cap0 _ F.out.2.2.2.2.2.1 F.out.1.1 ⟨hs0, by omega⟩ F.out.2.1 (Kd.C_below HRA.out HB.out) HC.out.1).mono ?_
  rintro e w10 ⟨rfl, hb⟩
  have n0_ := Aside0.mk (below_step HB.out hb); have n1_ := Aside0.mk (below_step HW.out hb); clear HB HW hb; have HB := n0_; have HW := n1_; clear n0_ n1_
  go_wp2_with fail
  refine (On_n vS B vX a1 m1 cap1 _ F.out.2.2.2.2.2.2.2.2.2 F.out.1.2.1 ⟨r20, by omega⟩ F.out.2.2.1 (Kd.C_below HRB.out HB.out) HC.out.2).mono ?_
  rintro e w11 ⟨rfl, hb⟩
  have n0_ := Aside0.mk (below_step HB.out hb); have n1_ := Aside0.mk (below_step HW.out hb); clear HB HW hb; have HB := n0_; have HW := n1_; clear n0_ n1_
  go_wp2
  go_ret
  exact ⟨rfl, HB.out⟩


/-- what holds behind i bytes of AdlerHalves' loop -/
def HalvesInv (l : List Int) (x y i : Int) : Prop := x + adlS (l.drop i.toNat) = 1 + adlS l ∧ y + adlT (l.drop i.toNat) = l.length + adlT l
theorem HalvesInv.step {l : List Int} {x y i : Int} (h : HalvesInv l x y i) (h0 : 0 ≤ i) (h1 : i < (l.length : Int)) : HalvesInv l (x + rd l i) (y + rd l i * ((l.length : Int) - i)) (i + 1) := by
  obtain ⟨ex, ey⟩ := h
  have ed := drop_cons l i h0 h1
  have er : l.getD i.toNat 0 = rd l i := rfl
  rw [er] at ed
  rw [ed] at ex ey
  simp only [adlS, adlT, List.length_drop] at ex ey
  rw [show (((l.length - (i + 1).toNat : Nat) : Int) + 1) = (l.length : Int) - i by omega, Int.mul_comm] at ey
  exact ⟨by omega, by omega⟩
theorem HalvesInv.finish {l : List Int} {x y i : Int} (h : HalvesInv l x y i) (h1 : (l.length : Int) ≤ i) : adlV 1 l % 65536 = x % 65521 ∧ adlV 1 l / 65536 = y % 65521 := by
  obtain ⟨ex, ey⟩ := h
  rw [List.drop_eq_nil_of_le (by omega)] at ex ey
  simp only [adlS, adlT] at ex ey
  rw [adlV_lo 1 (by omega), adlV_hi 1 (by omega)]
  omega

set_option maxHeartbeats 8000000 in
set_option maxRecDepth 100000 in
theorem halves_walk (a0 : Option Addr) (len0 cap0 : Nat) (z0 : List Int) (w : World)
    (w0 : (a0 = none ∧ len0 = 0 ∧ cap0 = 0 ∧ z0 = []) ∨ ∃ x, a0 = some x ∧ len0 ≤ cap0 ∧ cap0 ≤ maxLen ∧ z0.length = cap0 ∧ (∀ i, i < z0.length → w.cell? (x.add i) = some (.int .u8 (z0.getD i 0))) ∧ ∀ n ∈ z0, (Lit.int .u8 n).wf = true) (y0 : len0 * 1 ≤ 140737488351232) :
    Calls Try.prog 7 #[.slice a0 len0 cap0] w fun e w' => e = .returned (.bool true) ∧ Below w.heap.size w w' := by
  obtain ⟨l0, rfl, hr0, hm0, hw0, hc0⟩ := ReadsInt.ofRowC w0
  have HR0 := Aside0.mk (Kd.C_of_reads (d := (0 : Int)) (h1 := fun _ => rfl) hr0)
  obtain ⟨m, hm0e', hm0a, hm0b⟩ := min_n l0.length 50000
  have hm0e : (if (50000 : Int) < (l0.length : Int) then (50000 : Int) else (l0.length : Int)) = (m : Int) := hm0e'
  clear hm0e'
  have hcut0 := cut_n a0 l0.length cap0 m hm0a hc0
  obtain ⟨A, hA⟩ : ∃ A, l0.take m = A := ⟨_, rfl⟩
  have lA : A.length = m := by rw [← hA, List.length_take]; omega
  have bA : ∀ x ∈ A, 0 ≤ x ∧ x ≤ 255 := fun x hx => bounds_u8 (hw0 x (by rw [← hA] at hx; exact List.mem_of_mem_take hx))
  have RA : Kd.C (Kd.int .u8) w a0 m A := by have h := Kd.C_take HR0.out hm0a; rw [hA, lA] at h; exact h
  have F := Aside0.mk (And.intro lA bA)
  have HRA := Aside0.mk RA
  have HC := Aside0.mk (show m ≤ cap0 by omega)
  have HB := Aside0.mk (Below.refl w.heap.size w)
  clear hr0 hm0 hw0 hc0 w0 lA bA RA hA y0 HR0
  go_enter Try.func7, Try.ntmps7
  go_wp2_with fail
  refine (works_calls _).mono ?_
  rintro e w3 ⟨rfl, hb⟩
  have n0_ := Aside0.mk (below_step HB.out hb); clear HB hb; have HB := n0_; clear n0_
  go_wp2
  clear hcut0 hm0e
  go_loopw [3, 4, 5] (fun xv yv iv wr => ∃ (i x y : Int), 0 ≤ i ∧ i ≤ m ∧ xv = .int .i64 x ∧ yv = .int .i64 y ∧ iv = .int .i64 i ∧ 0 ≤ x ∧ x ≤ 1 + 255 * i ∧ 0 ≤ y ∧ y ≤ 50000 + 12750000 * i ∧ Aside0 (Below w.heap.size w wr) ∧ Aside0 (HalvesInv A x y i))
    (fun _ _ iv _ => m - (intOf iv).toNat)
  case atStart => exact ⟨0, 1, m, by omega, by omega, rfl, rfl, rfl, by omega, by omega, by omega, by omega, HB, ⟨⟨rfl, by have := F.out.1; simp; omega⟩⟩⟩
  case round =>
    obtain ⟨i, x, y, hi0, hi1, rfl, rfl, rfl, hx0, hx1, hy0, hy1, HB', HI⟩ := hrel
    by_cases hlt : i < (m : Int)
    · obtain ⟨ad, e, hcell⟩ := Kd.at_int (Kd.C_below HRA.out HB'.out) i hi0 hlt
      cases e
      have hz : 0 ≤ rd A i ∧ rd A i ≤ 255 := by
        have hi' : i.toNat < A.length := by have := F.out.1; omega
        unfold rd
        rw [List.getD_eq_getElem?_getD, List.getElem?_eq_getElem hi']; exact F.out.2 _ (List.getElem_mem hi')
      obtain ⟨hz0, hz1⟩ := hz
      have hp0 : 0 ≤ rd A i * ((m : Int) - i) := Int.mul_nonneg hz0 (by omega)
      have hp1 : rd A i * ((m : Int) - i) ≤ 12750000 := by
        have := Int.mul_le_mul hz1 (show (m : Int) - i ≤ 50000 by omega) (by omega) (by omega : (0 : Int) ≤ 255)
        omega
      have HS := HI.out.step hi0 (by have := F.out.1; omega)
      have HS' := Aside0.mk (show HalvesInv A (x + rd A i) (y + rd A i * ((m : Int) - i)) (i + 1) by have := F.out.1; rw [this] at HS; exact HS)
      clear HS
      go_wp2
      go_roundw
      case rel => exact ⟨i + 1, x + rd A i, y + rd A i * ((m : Int) - i), by omega, by omega, by go_num, by go_num, by go_num, by omega, by omega, by omega, by omega, HB', HS'⟩
      case measure => simp [intOf]; omega
    · have hf := HI.out.finish (by have := F.out.1; omega)
      have hr := adlV_range 1 (by omega) A
      obtain ⟨v, hv⟩ : ∃ v, adlV 1 A = v := ⟨_, rfl⟩
      rw [hv] at hf hr
      obtain ⟨hf0, hf1⟩ := hf
      obtain ⟨hr0, hr1, _, _⟩ := hr
      have HV := Aside0.mk hv
      clear hv
      go_wp2_with fail
      refine (Of_n A v a0 m cap0 _ HV.out F.out.1 F.out.2 (Kd.C_below HRA.out HB'.out) HC.out).mono ?_
      rintro e w5 ⟨rfl, hb⟩
      have n0_ := Aside0.mk (below_step HB'.out hb); clear HB' hb; have HB' := n0_; clear n0_
      go_wp2
      go_ret
      exact ⟨by simp, HB'.out⟩

theorem made_list (m : Nat) : (madeCells #[Value.int .u8 0] m).toList = nums .u8 (List.replicate m 0) := by
  apply List.ext_getElem
  · simp [nums, madeCells]
  · intro i h1 h2
    simp [nums, madeCells, Nat.mod_one]
def FillInv (xs : List Int) (i : Int) : Prop := xs.length = 6000 ∧ ∀ j, j < i.toNat → xs[j]? = some 255
theorem FillInv.start : FillInv (List.replicate 6000 0) 0 := ⟨List.length_replicate, fun j hj => by simp at hj⟩
theorem FillInv.step {xs : List Int} {i : Int} (h : FillInv xs i) (h0 : 0 ≤ i) (h1 : i < 6000) : FillInv (xs.set i.toNat 255) (i + 1) := by
  obtain ⟨hl, hf⟩ := h
  refine ⟨by rw [List.length_set, hl], fun j hj => ?_⟩
  rw [List.getElem?_set]
  split
  · rename_i hij; rw [if_pos (by omega)]
  · exact hf j (by omega)
theorem FillInv.finish {xs : List Int} {i : Int} (h : FillInv xs i) (h1 : 6000 ≤ i) : xs = List.replicate 6000 255 := by
  obtain ⟨hl, hf⟩ := h
  apply List.ext_getElem?
  intro j
  by_cases hj : j < 6000
  · rw [hf j (by omega), List.getElem?_replicate, if_pos hj]
  · rw [List.getElem?_eq_none (by omega), List.getElem?_eq_none (by rw [List.length_replicate]; omega)]
def GoInv (x y i : Int) : Prop := adl x y (List.replicate (6000 - i).toNat 255) = adl 1 0 (List.replicate 6000 255)
theorem GoInv.step {x y i : Int} (h : GoInv x y i) (h0 : 0 ≤ i) (h1 : i < 6000) : GoInv ((x + 255) % 65521) ((y + (x + 255) % 65521) % 65521) (i + 1) := by
  unfold GoInv at h ⊢
  rw [show (6000 - i).toNat = (6000 - (i + 1)).toNat + 1 by omega, List.replicate_succ] at h
  exact h
theorem GoInv.finish {x y i : Int} (h : GoInv x y i) (h1 : 6000 ≤ i) : adlV 1 (List.replicate 6000 255) = y * 65536 + x := by
  unfold GoInv at h
  rw [show (6000 - i).toNat = 0 by omega] at h
  simp only [List.replicate_zero, adl] at h
  unfold adlV
  rw [show (1 : Int) % 65536 % 65521 = 1 by decide, show (1 : Int) / 65536 % 65521 = 0 by decide, ← h]

set_option maxHeartbeats 8000000 in
set_option maxRecDepth 100000 in
theorem known_walk (w : World) : Calls Try.prog 8 #[] w fun e w' => e = .returned (.bool true) ∧ Below w.heap.size w w' := by
  have HB := Aside0.mk (Below.refl w.heap.size w)
  obtain ⟨C0, hC0⟩ : ∃ C : Array Value, madeCells #[.int .u8 0] 6000 = C := ⟨_, rfl⟩
  obtain ⟨C9, hC9⟩ : ∃ C : Array Value, madeCells #[.int .u8 0] 9 = C := ⟨_, rfl⟩
  obtain ⟨C3, hC3⟩ : ∃ C : Array Value, madeCells #[.int .u8 0] 3 = C := ⟨_, rfl⟩
  have hmk0 : ∀ W : World, (Instr.makeSlice 23 (.int .i64 6000) (.int .i64 6000)).run Try.prog W = .ok (.slice (some ⟨W.heap.size, 0, none⟩) 6000 6000) (W.alloc (.cells C0 5)) := by
    rw [← hC0]; exact print_make 23 5 .u8 1 Try.underlying23 info5 (by decide) 6000 (by decide)
  have hmk9 : ∀ W : World, (Instr.makeSlice 23 (.int .i64 9) (.int .i64 9)).run Try.prog W = .ok (.slice (some ⟨W.heap.size, 0, none⟩) 9 9) (W.alloc (.cells C9 5)) := by
    rw [← hC9]; exact print_make 23 5 .u8 1 Try.underlying23 info5 (by decide) 9 (by decide)
  have hmk3 : ∀ W : World, (Instr.makeSlice 23 (.int .i64 3) (.int .i64 3)).run Try.prog W = .ok (.slice (some ⟨W.heap.size, 0, none⟩) 3 3) (W.alloc (.cells C3 5)) := by
    rw [← hC3]; exact print_make 23 5 .u8 1 Try.underlying23 info5 (by decide) 3 (by decide)
  have HOWN := Aside0.mk (show (w.alloc (.cells C0 5)).ownsRow w.heap.size 5 1 (.slice (some ⟨w.heap.size, 0, none⟩) 6000 6000) 6000 (nums .u8 (List.replicate 6000 0)) by
    rw [← hC0]; exact own_made w w.heap.size 5 .u8 6000 (Nat.le_refl _) (by decide))
  have H9 := Aside0.mk (show C9.toList = nums .u8 [0, 0, 0, 0, 0, 0, 0, 0, 0] by rw [← hC9, made_list]; rfl)
  have H3 := Aside0.mk (show C3.toList = nums .u8 [0, 0, 0] by rw [← hC3, made_list]; rfl)
  have HF0 := Aside0.mk FillInv.start
  obtain ⟨X0, hX0⟩ : ∃ X : List Int, List.replicate 6000 0 = X := ⟨_, rfl⟩
  rw [hX0] at HOWN HF0
  clear hC0 hC9 hC3 hX0
  go_enter Try.func8, Try.ntmps8
  go_wp2
  clear hmk0
  go_loopw [2] (fun iv wr => ∃ (i : Int) (xs : List Int), 0 ≤ i ∧ i ≤ 6000 ∧ iv = .int .i64 i ∧ Aside0 (wr.ownsRow w.heap.size 5 1 (.slice (some ⟨w.heap.size, 0, none⟩) 6000 6000) 6000 (nums .u8 xs)) ∧ Aside0 (FillInv xs i) ∧ Aside0 (Below w.heap.size w wr))
    (fun iv _ => 6000 - (intOf iv).toNat)
  case atStart => exact ⟨0, X0, by omega, by omega, rfl, HOWN, HF0, ⟨below_alloc HB.out _⟩⟩
  case round =>
    obtain ⟨i, xs, hi0, hi1, rfl, HO, HF, HB'⟩ := hrel
    by_cases hlt : i < 6000
    · obtain ⟨hcell, hfr⟩ := own_at HO.out i hi0 hlt
      have HS := own_store HO.out i 255
      have HS1 := Aside0.mk HS.1
      clear HS
      go_wp2
      go_roundw
      case rel => exact ⟨i + 1, xs.set i.toNat 255, by omega, by omega, by go_num, HS1, ⟨HF.out.step hi0 hlt⟩, ⟨HB'.out.setCell (Nat.le_refl _) _⟩⟩
      case measure => simp [intOf]; omega
    · have HX := Aside0.mk (HF.out.finish (by omega))
      go_wp2
      go_loopw [3, 4, 5] (fun xv yv iv wq => ∃ (i x y : Int), 0 ≤ i ∧ i ≤ 6000 ∧ xv = .int .i64 x ∧ yv = .int .i64 y ∧ iv = .int .i64 i ∧ 0 ≤ x ∧ x < 65521 ∧ 0 ≤ y ∧ y < 65521 ∧ Aside0 (wq = wr) ∧ Aside0 (GoInv x y i))
        (fun _ _ iv _ => 6000 - (intOf iv).toNat)
      case atStart => exact ⟨0, 1, 0, by omega, by omega, rfl, rfl, rfl, by omega, by omega, by omega, by omega, (by first | exact ⟨rfl⟩ | exact ⟨trivial⟩), ⟨rfl⟩⟩
      case round =>
        obtain ⟨i2, x, y, hi20, hi21, rfl, rfl, rfl, hx0, hx1, hy0, hy1, HW, HG⟩ := hrel
        obtain rfl := HW.out
        clear HW
        by_cases hlt2 : i2 < 6000
        · go_wp2
          go_roundw
          case rel => exact ⟨i2 + 1, (x + 255) % 65521, (y + (x + 255) % 65521) % 65521, by omega, by omega, by go_num, by go_num, by go_num, by omega, by omega, by omega, by omega, (by first | exact ⟨rfl⟩ | exact ⟨trivial⟩), ⟨HG.out.step hi20 hlt2⟩⟩
          case measure => simp [intOf]; omega
        · have hv := HG.out.finish (by omega)
          obtain ⟨A1, c1, he, hR⟩ := own_reads HO.out
          injection he with he1 he2 he3
          subst he1; subst he3
          have hC := Kd.C_of_reads (d := (0 : Int)) (h1 := fun _ => rfl) hR
          rw [HX.out] at hC
          have hby : ∀ z ∈ List.replicate 6000 (255 : Int), 0 ≤ z ∧ z ≤ 255 := fun z hz => by rw [List.eq_of_mem_replicate hz]; omega
          have hlen : (List.replicate 6000 (255 : Int)).length = 6000 := List.length_replicate
          obtain ⟨X1, hX1⟩ : ∃ X : List Int, List.replicate 6000 255 = X := ⟨_, rfl⟩
          rw [hX1] at hv hC hby hlen
          have F := Aside0.mk (And.intro hv (And.intro hlen hby))
          have HC := Aside0.mk hC
          have HWB := Aside0.mk (Below.refl wr.heap.size wr)
          clear hv hR hC hby hlen hX1 HX HOWN HF0 HF HO HG
          go_wp2_with fail
          refine (works_calls _).mono ?_
          rintro e w3 ⟨rfl, hb⟩
          have n0_ := Aside0.mk (below_step HB'.out hb); have n1_ := Aside0.mk (below_step HWB.out hb); clear HB' HWB hb; have HB' := n0_; have HWB := n1_; clear n0_ n1_
          go_wp2_with fail
          refine (Of_n X1 (y * 65536 + x) _ 6000 6000 _ F.out.1 F.out.2.1 F.out.2.2 (Kd.C_below HC.out HWB.out) (Nat.le_refl _)).mono ?_
          rintro e w4 ⟨rfl, hb⟩
          have n0_ := Aside0.mk (below_step HB'.out hb); clear HB' HWB hb; have HB' := n0_; clear n0_
          go_wp2_with fail
          refine (On_n 4294967295 [] 917518 none 0 0 _ (by decide +kernel) rfl (by omega) (by simp) (Kd.C_nil _ _) (Nat.le_refl _)).mono ?_
          rintro e w5 ⟨rfl, hb⟩
          have n0_ := Aside0.mk (below_step HB'.out hb); clear HB' hb; have HB' := n0_; clear n0_
          go_wp2_with fail
          refine (On_n 65521 [] 0 none 0 0 _ (by decide +kernel) rfl (by omega) (by simp) (Kd.C_nil _ _) (Nat.le_refl _)).mono ?_
          rintro e w6 ⟨rfl, hb⟩
          have n0_ := Aside0.mk (below_step HB'.out hb); clear HB' hb; have HB' := n0_; clear n0_
          go_wp2_with fail
          refine (On_n 65520 [1] 0 _ 1 1 _ (by decide +kernel) rfl (by omega) (by decide) (lit_C [1] 1 rfl w6 _ rfl _ (by decide)) (Nat.le_refl _)).mono ?_
          rintro e w7 ⟨rfl, hb⟩
          have n0_ := Aside0.mk (below_step (below_alloc HB'.out _) hb); clear HB' hb; have HB' := n0_; clear n0_
          go_wp2_with fail
          refine (On_n 0 [0, 0, 0, 0, 0, 0, 0, 0, 0] 0 _ 9 9 _ (by decide +kernel) rfl (by omega) (by decide) (lit_C [0, 0, 0, 0, 0, 0, 0, 0, 0] 9 rfl w7 _ H9.out _ (by decide)) (Nat.le_refl _)).mono ?_
          rintro e w8 ⟨rfl, hb⟩
          have n0_ := Aside0.mk (below_step (below_alloc HB'.out _) hb); clear HB' hb; have HB' := n0_; clear n0_
          go_wp2_with fail
          refine (Of_n [0, 0, 0] 196609 _ 3 3 _ (by decide +kernel) rfl (by decide) (lit_C [0, 0, 0] 3 rfl w8 _ H3.out _ (by decide)) (Nat.le_refl _)).mono ?_
          rintro e w9 ⟨rfl, hb⟩
          have n0_ := Aside0.mk (below_step (below_alloc HB'.out _) hb); clear HB' hb; have HB' := n0_; clear n0_
          go_wp2
          go_ret
          exact ⟨by simp, HB'.out⟩
end Go.Proofs.Ytbigjbedogaknaa.Ext

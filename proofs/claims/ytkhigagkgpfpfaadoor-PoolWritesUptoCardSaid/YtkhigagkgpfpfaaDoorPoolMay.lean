/- The reference's may and Check of package pool, walked. -/
import Derived.Test.YtkhigagkgpfpfaaDoorPoolWorks
import Derived.Test.YtkhigagkgpfpfaaDoorTextRefEnc
set_option linter.unusedVariables false
set_option linter.unusedSimpArgs false
namespace Go.Proofs.YtkhigagkgpfpfaaDoor.Ext
open Go.RowKit Go.Lib Go.Proofs.YtkhigagkgpfpfaaDoorW.PrintWords Go.Proofs.YtkhigagkgpfpfaaDoorW.PrintLast Go.Proofs.YtkhigagkgpfpfaaDoorW.PrintMore Go.Proofs.YtkhigagkgpfpfaaDoor.PLeb
attribute [local go_sem] max2_int min2_int max_two min_two max_three min_three max_four min_four

theorem kind_calls {l : List S35} {i k : Int} {b : Bool} {w : World} {A : Option Addr} {n c : Nat} (hb : isB l i k = b) (hr : Kd.C k35 w A l.length l) (hn : l.length = n) (hc : n ≤ c) :
    Calls Tryd.prog 51 #[.slice A n c, .int .i64 i, .int .i64 k] w fun e w' => e = .returned (.bool b) ∧ Drawn0 w w' := by
  subst hn; subst hb; exact R4_kind.calls A c l i k _ w hr hc (kind_f l i k)
theorem renc_any (s : ByteArray) (w : World) (hs : s.size ≤ 17592186044416) (hT : Tabs w) :
    Calls Tryd.prog 53 #[.string s] w fun e w' => ∃ v : Value, e = .returned (.tuple #[v, .int .i64 (if tOK s then 0 else 20)]) ∧ Below w.heap.size w w' := by
  unfold tOK
  by_cases hv : validD s.data.toList = true
  · rw [hv]
    obtain ⟨cs, hcs, he⟩ := us_of_valid _ _ (Nat.le_refl _) hv
    have h1 := us_len cs
    have h2 := size_us he
    exact (renc_good cs s w hcs he (by omega) hT).mono fun e w' h => by
      obtain ⟨A, c, h1, -, -, -, h2⟩ := h
      exact ⟨_, h1, h2⟩
  · rw [Bool.eq_false_iff.2 hv]
    exact (rencode_bad s w hs hT (Bool.eq_false_iff.2 hv)).mono fun e w' ⟨h1, h2⟩ => ⟨_, h1, h2⟩
set_option maxHeartbeats 8000000 in
set_option maxRecDepth 100000 in
theorem may_long (A : Option Addr) (cap : Nat) (l : List S35) (i : Int)  (t : ByteArray) (n a b d : Int) (w : World) (h0 : 0 ≤ i) (h1 : i < l.length) (hx : rd_T35 l i = ⟨3, t, n, a, b, d⟩) (hr : Kd.C k35 w A l.length l) (hc : l.length ≤ cap)  :
    Calls Tryd.prog 55 #[.slice A l.length cap, .int .i64 i] w fun e w' => e = .returned (.bool (fitsB l ⟨3, t, n, a, b, d⟩)) ∧ Below w.heap.size w w' := by
  have hu35 := Tryd.underlying35
  obtain ⟨ad, rfl, z0, z1, z2, z3, z4, z5⟩ := at_T35 hr i h0 h1
  rw [hx] at z0 z1 z2 z3 z4 z5
  have hbl := World.block_lt_of_cell? w _ z0
  have HR := Aside0.mk hr
  have HC := Aside0.mk hc
  clear hr hc hx
  go_enter Tryd.func55, Tryd.ntmps55
  go_wp2
  all_goals go_ret
  all_goals exact ⟨by first | (simp [fitsB, noText, *]; done) | (simp [fitsB, noText, *]; intros; omega), below_alloc (below_alloc (Below.refl _ _) _) _⟩
set_option maxHeartbeats 8000000 in
set_option maxRecDepth 100000 in
theorem may_int (A : Option Addr) (cap : Nat) (l : List S35) (i : Int)  (t : ByteArray) (n a b d : Int) (w : World) (h0 : 0 ≤ i) (h1 : i < l.length) (hx : rd_T35 l i = ⟨2, t, n, a, b, d⟩) (hr : Kd.C k35 w A l.length l) (hc : l.length ≤ cap)  :
    Calls Tryd.prog 55 #[.slice A l.length cap, .int .i64 i] w fun e w' => e = .returned (.bool (fitsB l ⟨2, t, n, a, b, d⟩)) ∧ Below w.heap.size w w' := by
  have hu35 := Tryd.underlying35
  obtain ⟨ad, rfl, z0, z1, z2, z3, z4, z5⟩ := at_T35 hr i h0 h1
  rw [hx] at z0 z1 z2 z3 z4 z5
  have hbl := World.block_lt_of_cell? w _ z0
  have HR := Aside0.mk hr
  have HC := Aside0.mk hc
  clear hr hc hx
  go_enter Tryd.func55, Tryd.ntmps55
  go_wp2
  all_goals go_ret
  all_goals exact ⟨by first | (simp [fitsB, noText, *]; done) | (simp [fitsB, noText, *]; intros; omega), below_alloc (below_alloc (Below.refl _ _) _) _⟩
set_option maxHeartbeats 8000000 in
set_option maxRecDepth 100000 in
theorem may_other (A : Option Addr) (cap : Nat) (l : List S35) (i : Int) (k : Int) (t : ByteArray) (n a b d : Int) (w : World) (h0 : 0 ≤ i) (h1 : i < l.length) (hx : rd_T35 l i = ⟨k, t, n, a, b, d⟩) (hr : Kd.C k35 w A l.length l) (hc : l.length ≤ cap) (hk : k ≠ 1 ∧ k ≠ 2 ∧ k ≠ 3 ∧ k ≠ 4 ∧ k ≠ 5 ∧ k ≠ 6) :
    Calls Tryd.prog 55 #[.slice A l.length cap, .int .i64 i] w fun e w' => e = .returned (.bool (fitsB l ⟨k, t, n, a, b, d⟩)) ∧ Below w.heap.size w w' := by
  have hu35 := Tryd.underlying35
  obtain ⟨ad, rfl, z0, z1, z2, z3, z4, z5⟩ := at_T35 hr i h0 h1
  rw [hx] at z0 z1 z2 z3 z4 z5
  have hbl := World.block_lt_of_cell? w _ z0
  have HR := Aside0.mk hr
  have HC := Aside0.mk hc
  have hf : fitsB l ⟨k, t, n, a, b, d⟩ = false := by unfold fitsB; simp [hk]
  obtain ⟨k1, k2, k3, k4, k5, k6⟩ := hk
  rw [hf]
  have q1 : (k == 1) = false := beq_eq_false_iff_ne.2 k1
  have q2 : (k == 2) = false := beq_eq_false_iff_ne.2 k2
  have q3 : (k == 3) = false := beq_eq_false_iff_ne.2 k3
  have q4 : (k == 4) = false := beq_eq_false_iff_ne.2 k4
  have q5 : (k == 5) = false := beq_eq_false_iff_ne.2 k5
  have q6 : (k == 6) = false := beq_eq_false_iff_ne.2 k6
  clear k1 k2 k3 k4 k5 k6 hr hc hx
  go_enter Tryd.func55, Tryd.ntmps55
  go_wp2
  all_goals go_ret
  all_goals exact ⟨rfl, below_alloc (below_alloc (Below.refl _ _) _) _⟩
set_option maxHeartbeats 8000000 in
set_option maxRecDepth 100000 in
theorem may_class (A : Option Addr) (cap : Nat) (l : List S35) (i : Int)  (t : ByteArray) (n a b d : Int) (w : World) (h0 : 0 ≤ i) (h1 : i < l.length) (hx : rd_T35 l i = ⟨4, t, n, a, b, d⟩) (hr : Kd.C k35 w A l.length l) (hc : l.length ≤ cap)  :
    Calls Tryd.prog 55 #[.slice A l.length cap, .int .i64 i] w fun e w' => e = .returned (.bool (fitsB l ⟨4, t, n, a, b, d⟩)) ∧ Below w.heap.size w w' := by
  have hu35 := Tryd.underlying35
  obtain ⟨ad, rfl, z0, z1, z2, z3, z4, z5⟩ := at_T35 hr i h0 h1
  rw [hx] at z0 z1 z2 z3 z4 z5
  have hbl := World.block_lt_of_cell? w _ z0
  have HR := Aside0.mk hr
  have HC := Aside0.mk hc
  obtain ⟨v1, hv1⟩ : ∃ v, isB l a 1 = v := ⟨_, rfl⟩
  have HI := Aside0.mk hv1
  clear hv1 hr hc hx
  go_enter Tryd.func55, Tryd.ntmps55
  go_wp2_with (go_at_call 51; refine (kind_calls HI.out (Kd.C_below HR.out (by (repeat (first | exact Below.refl _ _ | apply pw_below_drewN | apply below_alloc)))) rfl HC.out).mono ?_; rintro e w1 ⟨rfl, m, rfl⟩)
  all_goals cases v1
  all_goals (try go_wp2)
  all_goals go_ret
  all_goals exact ⟨by simp [fitsB, noText, HI.out, *], by (repeat (first | exact Below.refl _ _ | apply pw_below_drewN | apply below_alloc))⟩
set_option maxHeartbeats 8000000 in
set_option maxRecDepth 100000 in
theorem may_text (A : Option Addr) (cap : Nat) (l : List S35) (i : Int)  (t : ByteArray) (n a b d : Int) (w : World) (h0 : 0 ≤ i) (h1 : i < l.length) (hx : rd_T35 l i = ⟨1, t, n, a, b, d⟩) (hr : Kd.C k35 w A l.length l) (hc : l.length ≤ cap) (hT : Tabs w) (hs : t.size ≤ 17592186044416) :
    Calls Tryd.prog 55 #[.slice A l.length cap, .int .i64 i] w fun e w' => e = .returned (.bool (fitsB l ⟨1, t, n, a, b, d⟩)) ∧ Below w.heap.size w w' := by
  have hu35 := Tryd.underlying35
  obtain ⟨ad, rfl, z0, z1, z2, z3, z4, z5⟩ := at_T35 hr i h0 h1
  rw [hx] at z0 z1 z2 z3 z4 z5
  have hbl := World.block_lt_of_cell? w _ z0
  have HR := Aside0.mk hr
  have HC := Aside0.mk hc
  obtain ⟨v1, hv1⟩ : ∃ v, tOK t = v := ⟨_, rfl⟩
  have HV := Aside0.mk hv1
  have HL := Aside0.mk (fun (w1 : World) (hb : Below w.heap.size w w1) => renc_any t w1 hs (hT.below hb))
  clear hv1 hT hs hr hc hx
  go_enter Tryd.func55, Tryd.ntmps55
  go_wp2_with fail
  refine (HL.out _ (below_alloc (below_alloc (Below.refl _ _) _) _)).mono ?_
  rintro e w1 ⟨m, rfl, hb⟩
  obtain ⟨b0, b1⟩ := two_old hb
  have c00 : w1.cell? ⟨w.heap.size, 0, none⟩ = some (.int .i64 1) := cell_of_row _ _ 0 _ _ _ b0
  have c01 : w1.cell? ⟨w.heap.size, 1, none⟩ = some (.string t) := cell_of_row _ _ 1 _ _ _ b0
  have c02 : w1.cell? ⟨w.heap.size, 2, none⟩ = some (.int .i64 n) := cell_of_row _ _ 2 _ _ _ b0
  have c03 : w1.cell? ⟨w.heap.size, 3, none⟩ = some (.int .i64 a) := cell_of_row _ _ 3 _ _ _ b0
  have c04 : w1.cell? ⟨w.heap.size, 4, none⟩ = some (.int .i64 b) := cell_of_row _ _ 4 _ _ _ b0
  have c05 : w1.cell? ⟨w.heap.size, 5, none⟩ = some (.int .i64 d) := cell_of_row _ _ 5 _ _ _ b0
  have c10 : w1.cell? ⟨w.heap.size + 1, 0, none⟩ = some (.int .i64 1) := cell_of_row _ _ 0 _ _ _ b1
  have c11 : w1.cell? ⟨w.heap.size + 1, 1, none⟩ = some (.string t) := cell_of_row _ _ 1 _ _ _ b1
  have c12 : w1.cell? ⟨w.heap.size + 1, 2, none⟩ = some (.int .i64 0) := cell_of_row _ _ 2 _ _ _ b1
  have c13 : w1.cell? ⟨w.heap.size + 1, 3, none⟩ = some (.int .i64 0) := cell_of_row _ _ 3 _ _ _ b1
  have c14 : w1.cell? ⟨w.heap.size + 1, 4, none⟩ = some (.int .i64 0) := cell_of_row _ _ 4 _ _ _ b1
  have c15 : w1.cell? ⟨w.heap.size + 1, 5, none⟩ = some (.int .i64 0) := cell_of_row _ _ 5 _ _ _ b1
  have HB := Aside0.mk (below_step (below_alloc (below_alloc (Below.refl _ _) _) _) hb)
  clear hb b0 b1 HL
  rw [HV.out]
  cases v1
  · rw [show (if false = true then (0 : Int) else 20) = 20 from rfl]
    go_wp2
    all_goals go_ret
    all_goals exact ⟨by simp [fitsB, noText, HV.out, *], HB.out⟩
  · rw [show (if true = true then (0 : Int) else 20) = 0 from rfl]
    go_wp2
    all_goals go_ret
    all_goals exact ⟨by simp [fitsB, noText, HV.out, *], HB.out⟩
set_option maxHeartbeats 8000000 in
set_option maxRecDepth 100000 in
theorem may_ref5 (A : Option Addr) (cap : Nat) (l : List S35) (i : Int)  (t : ByteArray) (n a b d : Int) (w : World) (h0 : 0 ≤ i) (h1 : i < l.length) (hx : rd_T35 l i = ⟨5, t, n, a, b, d⟩) (hr : Kd.C k35 w A l.length l) (hc : l.length ≤ cap)  :
    Calls Tryd.prog 55 #[.slice A l.length cap, .int .i64 i] w fun e w' => e = .returned (.bool (fitsB l ⟨5, t, n, a, b, d⟩)) ∧ Below w.heap.size w w' := by
  have hu35 := Tryd.underlying35
  obtain ⟨ad, rfl, z0, z1, z2, z3, z4, z5⟩ := at_T35 hr i h0 h1
  rw [hx] at z0 z1 z2 z3 z4 z5
  have hbl := World.block_lt_of_cell? w _ z0
  have HR := Aside0.mk hr
  have HC := Aside0.mk hc
  obtain ⟨v1, hv1⟩ : ∃ v, isB l a 4 = v := ⟨_, rfl⟩
  obtain ⟨v2, hv2⟩ : ∃ v, isB l b 1 = v := ⟨_, rfl⟩
  obtain ⟨v3, hv3⟩ : ∃ v, isB l d 1 = v := ⟨_, rfl⟩
  have HI := Aside0.mk hv1
  have HI2 := Aside0.mk hv2
  have HI3 := Aside0.mk hv3
  clear hv1 hv2 hv3 hr hc hx
  by_cases hn : n = 0
  · by_cases ht : t.toList = []
    · have hte := ba_nil ht
      subst hte
      subst hn
      clear ht
      have HF := Aside0.mk (show fitsB l ⟨5, (⟨#[]⟩ : ByteArray), 0, a, b, d⟩ = (v1 && (v2 && v3)) by simp [fitsB, noText, HI.out, HI2.out, HI3.out])
      go_enter Tryd.func55, Tryd.ntmps55
      go_wp2_with fail
      refine (kind_calls HI.out (Kd.C_below HR.out (by (repeat (first | exact Below.refl _ _ | apply pw_below_drewN | apply below_alloc)))) rfl HC.out).mono ?_
      rintro e w1 ⟨rfl, m, rfl⟩
      cases v1
      · go_wp2
        go_ret
        exact ⟨by rw [HF.out]; rfl, by (repeat (first | exact Below.refl _ _ | apply pw_below_drewN | apply below_alloc))⟩
      go_wp2_with fail
      refine (kind_calls HI2.out (Kd.C_below HR.out (by (repeat (first | exact Below.refl _ _ | apply pw_below_drewN | apply below_alloc)))) rfl HC.out).mono ?_
      rintro e w1 ⟨rfl, m2, rfl⟩
      cases v2
      · go_wp2
        go_ret
        exact ⟨by rw [HF.out]; rfl, by (repeat (first | exact Below.refl _ _ | apply pw_below_drewN | apply below_alloc))⟩
      go_wp2_with fail
      refine (kind_calls HI3.out (Kd.C_below HR.out (by (repeat (first | exact Below.refl _ _ | apply pw_below_drewN | apply below_alloc)))) rfl HC.out).mono ?_
      rintro e w1 ⟨rfl, m3, rfl⟩
      cases v3
      all_goals go_wp2
      all_goals go_ret
      all_goals exact ⟨by rw [HF.out]; rfl, by (repeat (first | exact Below.refl _ _ | apply pw_below_drewN | apply below_alloc))⟩
    · have HF := Aside0.mk (show fitsB l ⟨5, t, n, a, b, d⟩ = false by simp [fitsB, noText, ht])
      subst hn
      have q1 : (t.toList == []) = false := beq_eq_false_iff_ne.2 ht
      go_enter Tryd.func55, Tryd.ntmps55
      go_wp2
      all_goals go_ret
      all_goals exact ⟨by rw [HF.out]; rfl, by (repeat (first | exact Below.refl _ _ | apply pw_below_drewN | apply below_alloc))⟩
  · have HF := Aside0.mk (show fitsB l ⟨5, t, n, a, b, d⟩ = false by simp [fitsB, noText, hn])
    have q1 : (n == 0) = false := beq_eq_false_iff_ne.2 hn
    go_enter Tryd.func55, Tryd.ntmps55
    go_wp2
    all_goals go_ret
    all_goals exact ⟨by rw [HF.out]; rfl, by (repeat (first | exact Below.refl _ _ | apply pw_below_drewN | apply below_alloc))⟩
set_option maxHeartbeats 8000000 in
set_option maxRecDepth 100000 in
theorem may_ref6 (A : Option Addr) (cap : Nat) (l : List S35) (i : Int)  (t : ByteArray) (n a b d : Int) (w : World) (h0 : 0 ≤ i) (h1 : i < l.length) (hx : rd_T35 l i = ⟨6, t, n, a, b, d⟩) (hr : Kd.C k35 w A l.length l) (hc : l.length ≤ cap)  :
    Calls Tryd.prog 55 #[.slice A l.length cap, .int .i64 i] w fun e w' => e = .returned (.bool (fitsB l ⟨6, t, n, a, b, d⟩)) ∧ Below w.heap.size w w' := by
  have hu35 := Tryd.underlying35
  obtain ⟨ad, rfl, z0, z1, z2, z3, z4, z5⟩ := at_T35 hr i h0 h1
  rw [hx] at z0 z1 z2 z3 z4 z5
  have hbl := World.block_lt_of_cell? w _ z0
  have HR := Aside0.mk hr
  have HC := Aside0.mk hc
  obtain ⟨v1, hv1⟩ : ∃ v, isB l a 4 = v := ⟨_, rfl⟩
  obtain ⟨v2, hv2⟩ : ∃ v, isB l b 1 = v := ⟨_, rfl⟩
  obtain ⟨v3, hv3⟩ : ∃ v, isB l d 1 = v := ⟨_, rfl⟩
  have HI := Aside0.mk hv1
  have HI2 := Aside0.mk hv2
  have HI3 := Aside0.mk hv3
  clear hv1 hv2 hv3 hr hc hx
  by_cases hn : n = 0
  · by_cases ht : t.toList = []
    · have hte := ba_nil ht
      subst hte
      subst hn
      clear ht
      have HF := Aside0.mk (show fitsB l ⟨6, (⟨#[]⟩ : ByteArray), 0, a, b, d⟩ = (v1 && (v2 && v3)) by simp [fitsB, noText, HI.out, HI2.out, HI3.out])
      go_enter Tryd.func55, Tryd.ntmps55
      go_wp2_with fail
      refine (kind_calls HI.out (Kd.C_below HR.out (by (repeat (first | exact Below.refl _ _ | apply pw_below_drewN | apply below_alloc)))) rfl HC.out).mono ?_
      rintro e w1 ⟨rfl, m, rfl⟩
      cases v1
      · go_wp2
        go_ret
        exact ⟨by rw [HF.out]; rfl, by (repeat (first | exact Below.refl _ _ | apply pw_below_drewN | apply below_alloc))⟩
      go_wp2_with fail
      refine (kind_calls HI2.out (Kd.C_below HR.out (by (repeat (first | exact Below.refl _ _ | apply pw_below_drewN | apply below_alloc)))) rfl HC.out).mono ?_
      rintro e w1 ⟨rfl, m2, rfl⟩
      cases v2
      · go_wp2
        go_ret
        exact ⟨by rw [HF.out]; rfl, by (repeat (first | exact Below.refl _ _ | apply pw_below_drewN | apply below_alloc))⟩
      go_wp2_with fail
      refine (kind_calls HI3.out (Kd.C_below HR.out (by (repeat (first | exact Below.refl _ _ | apply pw_below_drewN | apply below_alloc)))) rfl HC.out).mono ?_
      rintro e w1 ⟨rfl, m3, rfl⟩
      cases v3
      all_goals go_wp2
      all_goals go_ret
      all_goals exact ⟨by rw [HF.out]; rfl, by (repeat (first | exact Below.refl _ _ | apply pw_below_drewN | apply below_alloc))⟩
    · have HF := Aside0.mk (show fitsB l ⟨6, t, n, a, b, d⟩ = false by simp [fitsB, noText, ht])
      subst hn
      have q1 : (t.toList == []) = false := beq_eq_false_iff_ne.2 ht
      go_enter Tryd.func55, Tryd.ntmps55
      go_wp2
      all_goals go_ret
      all_goals exact ⟨by rw [HF.out]; rfl, by (repeat (first | exact Below.refl _ _ | apply pw_below_drewN | apply below_alloc))⟩
  · have HF := Aside0.mk (show fitsB l ⟨6, t, n, a, b, d⟩ = false by simp [fitsB, noText, hn])
    have q1 : (n == 0) = false := beq_eq_false_iff_ne.2 hn
    go_enter Tryd.func55, Tryd.ntmps55
    go_wp2
    all_goals go_ret
    all_goals exact ⟨by rw [HF.out]; rfl, by (repeat (first | exact Below.refl _ _ | apply pw_below_drewN | apply below_alloc))⟩
theorem may_calls (A : Option Addr) (cap : Nat) (l : List S35) (i : Int) (w : World) (hT : Tabs w) (hs : Small l) (h0 : 0 ≤ i) (h1 : i < l.length) (hr : Kd.C k35 w A l.length l) (hc : l.length ≤ cap) :
    Calls Tryd.prog 55 #[.slice A l.length cap, .int .i64 i] w fun e w' => e = .returned (.bool (fitsB l (rd_T35 l i))) ∧ Below w.heap.size w w' := by
  have hsm := rd_small hs i
  obtain ⟨⟨k, t, n, a, b, d⟩, hx⟩ : ∃ x, rd_T35 l i = x := ⟨_, rfl⟩
  rw [hx] at hsm ⊢
  rcases (show k = 1 ∨ k = 2 ∨ k = 3 ∨ k = 4 ∨ k = 5 ∨ k = 6 ∨ (k ≠ 1 ∧ k ≠ 2 ∧ k ≠ 3 ∧ k ≠ 4 ∧ k ≠ 5 ∧ k ≠ 6) by omega) with h | h | h | h | h | h | h
  · subst h; exact may_text A cap l i t n a b d w h0 h1 hx hr hc hT hsm
  · subst h; exact may_int A cap l i t n a b d w h0 h1 hx hr hc
  · subst h; exact may_long A cap l i t n a b d w h0 h1 hx hr hc
  · subst h; exact may_class A cap l i t n a b d w h0 h1 hx hr hc
  · subst h; exact may_ref5 A cap l i t n a b d w h0 h1 hx hr hc
  · subst h; exact may_ref6 A cap l i t n a b d w h0 h1 hx hr hc
  · exact may_other A cap l i k t n a b d w h0 h1 hx hr hc h
theorem rd_memN {l : List S35} {j : Nat} (h0 : 1 ≤ j) (h1 : j < l.length) : rd_T35 l (j : Int) ∈ l.drop 1 := by
  have e : rd_T35 l (j : Int) = l[j] := by unfold rd_T35; rw [List.getD_eq_getElem?_getD, Int.toNat_natCast, List.getElem?_eq_getElem h1]; rfl
  rw [e]
  refine List.mem_of_getElem? (i := j - 1) ?_
  rw [List.getElem?_drop, show 1 + (j - 1) = j by omega, List.getElem?_eq_getElem h1]
theorem all_from {l : List S35} (k : Nat) (h : ∀ j, 1 ≤ j → j < l.length → fitsB l (rd_T35 l (j : Int)) = true) : (l.drop 1).all (fitsB l) = true := by
  rw [List.all_eq_true]
  intro x hx
  obtain ⟨i, hi⟩ := List.getElem?_of_mem hx
  rw [List.getElem?_drop] at hi
  have hl := (List.getElem?_eq_some_iff.1 hi).1
  have h2 := h (1 + i) (by omega) hl
  have e : rd_T35 l ((1 + i : Nat) : Int) = x := by unfold rd_T35; rw [List.getD_eq_getElem?_getD, Int.toNat_natCast, hi]; rfl
  rwa [e] at h2
set_option maxHeartbeats 8000000 in
set_option maxRecDepth 100000 in
theorem rcheck_calls {l : List S35} {A : Option Addr} {n cap : Nat} (w : World) (hT : Tabs w) (hs : Small l) (hr : Kd.C k35 w A l.length l) (hn : l.length = n) (hc : n ≤ cap) (hm : n ≤ 4611686018427387904) :
    Calls Tryd.prog 33 #[.slice A n cap] w fun e w' => e = .returned (.int .i64 (checkL l)) ∧ Below w.heap.size w w' := by
  subst hn
  have hu35 := Tryd.underlying35
  unfold checkL
  by_cases h1 : 4096 < l.length
  · rw [if_pos h1]
    have q1 : decide ((4096 : Int) < (l.length : Int)) = true := decide_eq_true (by omega)
    clear hr hs hT
    go_enter Tryd.func33, Tryd.ntmps33
    go_wp2
    go_ret
    exact ⟨rfl, Below.refl _ _⟩
  rw [if_neg h1]
  have q1 : decide ((4096 : Int) < (l.length : Int)) = false := decide_eq_false (by omega)
  by_cases h0 : l.length = 0
  · have q2 : ((l.length : Int) == 0) = true := beq_iff_eq.2 (by omega)
    have hk : okL l = false := by unfold okL; rw [decide_eq_false (by omega)]; rfl
    rw [hk]
    clear hr hs hT
    go_enter Tryd.func33, Tryd.ntmps33
    go_wp2
    go_ret
    exact ⟨rfl, Below.refl _ _⟩
  have q2 : ((l.length : Int) == 0) = false := beq_eq_false_iff_ne.2 (by omega)
  have hpos : (0 : Int) < (l.length : Int) := by omega
  have HM4 := Aside0.mk (show l.length ≤ 4096 by omega)
  obtain ⟨ad, e0, x0, x1, x2, x3, x4, x5⟩ := at_T35 hr 0 (by omega) hpos
  subst e0
  have HZ0 := Aside0.mk (show okL l = (zeroB (rd_T35 l 0) && (l.drop 1).all (fitsB l)) from by unfold okL; rw [decide_eq_true (by omega)]; rfl)
  have HMAY := Aside0.mk (fun (w1 : World) (hb : Below w.heap.size w w1) (i : Int) (g0 : 0 ≤ i) (g1 : i < l.length) => may_calls (some ad) cap l i w1 (hT.below hb) hs g0 g1 (Kd.C_below hr hb) hc)
  generalize hx : rd_T35 l 0 = x at x0 x1 x2 x3 x4 x5 HZ0
  obtain ⟨k, t, n, a, b, d⟩ := x
  have a0 : w.cell? ad = some (.int .i64 k) := x0
  have a1 : w.cell? ⟨ad.block, ad.off + 1, none⟩ = some (.string t) := x1
  have a2 : w.cell? ⟨ad.block, ad.off + 2, none⟩ = some (.int .i64 n) := x2
  have a3 : w.cell? ⟨ad.block, ad.off + 3, none⟩ = some (.int .i64 a) := x3
  have a4 : w.cell? ⟨ad.block, ad.off + 4, none⟩ = some (.int .i64 b) := x4
  have a5 : w.cell? ⟨ad.block, ad.off + 5, none⟩ = some (.int .i64 d) := x5
  clear x0 x1 x2 x3 x4 x5 hx hT hs hr hc hm h0 h1
  obtain ⟨R, hR⟩ : ∃ R : Int, (if okL l = true then (0 : Int) else 40) = R := ⟨_, rfl⟩
  rw [hR]
  have HRES := Aside0.mk hR
  clear hR
  by_cases hz : zeroB ⟨k, t, n, a, b, d⟩ = true
  · rw [hz, Bool.true_and] at HZ0
    obtain ⟨rfl, rfl, rfl, rfl, rfl, rfl⟩ : k = 0 ∧ t = ⟨#[]⟩ ∧ n = 0 ∧ a = 0 ∧ b = 0 ∧ d = 0 := by simpa using zeroB_eq hz
    clear hz
    have HB0 := Aside0.mk (Below.refl w.heap.size w)
    go_enter Tryd.func33, Tryd.ntmps33
    go_wp2
    go_loopw [3] (fun i wr => ∃ j : Nat, i = .int .i64 (j : Int) ∧ 1 ≤ j ∧ j ≤ l.length ∧ Aside0 (∀ q, 1 ≤ q → q < j → fitsB l (rd_T35 l (q : Int)) = true) ∧ Aside0 (Below w.heap.size w wr)) (fun i _ => l.length - (RowKit.intOf i).toNat)
    case atStart => exact ⟨1, rfl, Nat.le_refl _, by omega, ⟨fun q h1 h2 => by omega⟩, HB0⟩
    case round =>
      obtain ⟨j, rfl, hj1, hj, HA, HB⟩ := hrel
      clear HB0
      by_cases hlt : j < l.length
      · have hltz : decide ((j : Int) < (l.length : Int)) = true := decide_eq_true (by omega)
        have hm1 : ((j : Int) + 1) ≤ 4097 := by have := HM4.out; omega
        obtain ⟨v, hv⟩ : ∃ v, fitsB l (rd_T35 l (j : Int)) = v := ⟨_, rfl⟩
        have HX := Aside0.mk (HMAY.out _ HB.out (j : Int) (by omega) (by omega))
        rw [hv] at HX
        have HVV := Aside0.mk hv
        clear hv
        go_wp2_with fail
        refine HX.out.mono ?_
        rintro e w1 ⟨rfl, hb⟩
        have HB1 := Aside0.mk (below_step HB.out hb)
        clear hb HX
        cases v
        · have hk : okL l = false := by
            rw [HZ0.out, Bool.eq_false_iff]
            intro hall
            have h2 := List.all_eq_true.1 hall _ (rd_memN hj1 hlt)
            rw [HVV.out] at h2
            cases h2
          have HK := Aside0.mk (show R = 40 by rw [← HRES.out, hk]; rfl)
          clear hk
          go_wp2
          go_ret
          exact ⟨by rw [HK.out]; rfl, HB1.out⟩
        · have HA2 := Aside0.mk (fun (q : Nat) (h1 : 1 ≤ q) (h2 : q < j + 1) => show fitsB l (rd_T35 l (q : Int)) = true from (by
            rcases Nat.lt_or_ge q j with h | h
            · exact HA.out q h1 h
            · have e : q = j := by omega
              rw [e]; exact HVV.out))
          go_wp2
          go_roundw
          case rel => exact ⟨j + 1, by go_num, by omega, by omega, HA2, HB1⟩
          case measure => simp [RowKit.intOf]; omega
      · have hltz : decide ((j : Int) < (l.length : Int)) = false := decide_eq_false (by omega)
        have hk : okL l = true := by rw [HZ0.out]; exact all_from 0 (fun q h1 h2 => HA.out q h1 (by omega))
        have HK := Aside0.mk (show R = 0 by rw [← HRES.out, hk]; rfl)
        clear hk
        go_wp2
        go_ret
        exact ⟨by rw [HK.out]; rfl, HB.out⟩
  · have hk : okL l = false := by rw [HZ0.out, Bool.eq_false_iff.2 hz]; rfl
    have HK := Aside0.mk (show R = 40 by rw [← HRES.out, hk]; rfl)
    clear hk HZ0
    have HNZ := Aside0.mk hz
    clear hz
    go_enter Tryd.func33, Tryd.ntmps33
    go_wp2_with fail
    all_goals first | (go_ret; exact ⟨by rw [HK.out]; rfl, Below.refl _ _⟩) | (exfalso; exact HNZ.out (by simp [zeroB, noText, *]))
end Go.Proofs.YtkhigagkgpfpfaaDoor.Ext

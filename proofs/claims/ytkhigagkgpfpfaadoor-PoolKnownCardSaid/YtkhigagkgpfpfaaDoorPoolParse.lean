/- pool.Parse, walked. -/
import Derived.Test.YtkhigagkgpfpfaaDoorPoolOne
set_option linter.unusedVariables false
set_option linter.unusedSimpArgs false
namespace Go.Proofs.YtkhigagkgpfpfaaDoor.Ext
open Go.RowKit Go.Lib Go.Proofs.YtkhigagkgpfpfaaDoorW.PrintWords Go.Proofs.YtkhigagkgpfpfaaDoorW.PrintLast Go.Proofs.YtkhigagkgpfpfaaDoorW.PrintMore Go.Proofs.YtkhigagkgpfpfaaDoor.PLeb
attribute [local go_sem] max2_int min2_int max_two min_two max_three min_three max_four min_four

/-- what the loop ends in -/
noncomputable def allL (n : Int) (b1 : List Int) (e0 : Int) : List S35 × List Int × Int := if e0 = 0 then manyL n b1 else ([], b1, e0)
/-- where the loop stands -/
def PInv (n : Nat) (b1 : List Int) (e0 : Int) (S : List S35 × List Int × Int) (k : Nat) (l : List S35) (b : List Int) (e : Int) : Prop :=
  (Bytes b ∧ b.length ≤ b1.length ∧ ∀ x ∈ l, x.f1.size ≤ 4 * b1.length) ∧ ((k = 0 ∧ l = [] ∧ b = b1 ∧ e = e0) ∨ (1 ≤ k ∧ e0 = 0 ∧ l.length = k ∧ ((e = 0 ∧ loopL (n - k) b l = S) ∨ (e ≠ 0 ∧ S = (l, b, e)))))
theorem PInv.start {n : Nat} {b1 : List Int} {e0 : Int} {S : List S35 × List Int × Int} (hb : Bytes b1) : PInv n b1 e0 S 0 [] b1 e0 :=
  ⟨⟨hb, Nat.le_refl _, fun x hx => by cases hx⟩, .inl ⟨rfl, rfl, rfl, rfl⟩⟩
theorem PInv.len {n : Nat} {b1 : List Int} {e0 : Int} {S : List S35 × List Int × Int} {k : Nat} {l : List S35} {b : List Int} {e : Int} (h : PInv n b1 e0 S k l b e) : l.length = k := by
  rcases h.2 with ⟨rfl, rfl, -⟩ | ⟨-, -, h, -⟩
  · rfl
  · exact h
theorem PInv.pe0 {n : Nat} {b1 : List Int} {e0 : Int} {S : List S35 × List Int × Int} {k : Nat} {l : List S35} {b : List Int} (h : PInv n b1 e0 S k l b 0) : e0 = 0 := by
  rcases h.2 with ⟨-, -, -, h⟩ | ⟨-, h, -⟩
  · exact h.symm
  · exact h
theorem PInv.first {n : Nat} {b1 : List Int} {e0 : Int} {S : List S35 × List Int × Int} {l : List S35} {b : List Int} (h : PInv n b1 e0 S 0 l b 0) (hS : allL n b1 e0 = S) (hn : 0 < n) : l = [] ∧ PInv n b1 e0 S 1 (l ++ [zero35]) b 0 := by
  rcases h.2 with ⟨-, rfl, rfl, he⟩ | ⟨h1, -⟩
  · refine ⟨rfl, ⟨h.1.1, h.1.2.1, fun x hx => ?_⟩, .inr ⟨Nat.le_refl _, he.symm, rfl, .inl ⟨rfl, ?_⟩⟩⟩
    · have : x = zero35 := by simpa using hx
      rw [this]; exact Nat.zero_le _
    · rw [← hS]
      unfold allL manyL
      rw [if_pos he.symm, if_neg (by omega), Int.toNat_natCast]; rfl
  · omega
theorem PInv.next {n : Nat} {b1 : List Int} {e0 : Int} {S : List S35 × List Int × Int} {k : Nat} {l : List S35} {b : List Int} (h : PInv n b1 e0 S k l b 0) (hk : 1 ≤ k) (hkn : k < n) (hm : b1.length ≤ 1000000000000) : PInv n b1 e0 S (k + 1) (l ++ [(oneL b).1]) (oneL b).2.1 (oneL b).2.2 := by
  have hkp := one_keep h.1.1 (by have := h.1.2.1; omega)
  have hbl := h.1.2.1
  refine ⟨⟨hkp.1, by omega, fun x hx => ?_⟩, .inr ⟨by omega, h.pe0, by rw [List.length_append, h.len]; rfl, ?_⟩⟩
  · rcases List.mem_append.1 hx with hx | hx
    · exact h.1.2.2 x hx
    · have : x = (oneL b).1 := by simpa using hx
      rw [this]; have := hkp.2.2.1; omega
  · rcases h.2 with ⟨h0, -⟩ | ⟨-, -, -, h3 | h3⟩
    · omega
    · obtain ⟨-, h3⟩ := h3
      rw [show n - k = (n - (k + 1)) + 1 by omega] at h3
      unfold loopL at h3
      by_cases he : (oneL b).2.2 = 0
      · rw [if_pos he] at h3; exact .inl ⟨he, h3⟩
      · rw [if_neg he] at h3; exact .inr ⟨he, h3.symm⟩
    · exact absurd rfl h3.1
theorem PInv.done {n : Nat} {b1 : List Int} {e0 : Int} {S : List S35 × List Int × Int} {k : Nat} {l : List S35} {b : List Int} {e : Int} (h : PInv n b1 e0 S k l b e) (hS : allL n b1 e0 = S) (hk : e ≠ 0 ∨ k = n) : S = (l, b, e) := by
  rcases h.2 with ⟨rfl, rfl, rfl, rfl⟩ | ⟨h1, h0, h2, h3 | h3⟩
  · rw [← hS]
    unfold allL
    by_cases he : e = 0
    · rcases hk with hk | hk
      · exact absurd he hk
      · subst hk; subst he; rfl
    · rw [if_neg he]
  · obtain ⟨rfl, h3⟩ := h3
    rcases hk with hk | hk
    · exact absurd rfl hk
    · subst hk; rw [Nat.sub_self] at h3; exact h3.symm
  · exact h3.2
theorem rs_grown {base R : Nat} {W w5 : World} {v : Value} {l : List S35} {b : List Int} {e : Int} {ok : Nat → Prop} (hS : RS base R W b e) (hO : Kd.R k35 35 W base ok v l) (hR : ∀ k, v.ownBlock = some k → k ≠ R) (hg : W.grownBy w5 v.ownBlock) : RS base R w5 b e := by
  obtain ⟨A, c, hR', hl, hr, hT⟩ := hS
  obtain ⟨inner, ho⟩ := Kd.R_own hO
  have hne : ∀ ad, A = some ad → 0 < b.length → some ad.block ≠ v.ownBlock := by
    intro ad hA hn he
    rcases hT ad hA hn with h | ⟨cs, h⟩
    · have := own_base ho ad.block he.symm; omega
    · obtain ⟨cells, hc⟩ := own_typed ho ad.block he.symm
      rw [h] at hc
      injection hc with hc
      injection hc with _ hc _
      exact absurd hc (by decide)
  refine ⟨A, c, (hg.block R (lt_of_block hR') (fun h => hR R h.symm rfl)).trans hR', hl, ?_, ?_⟩
  · cases hv : v.ownBlock with
    | none => exact Kd.C_below hr ⟨hg.os, hg.tape, hg.output, hg.size, fun k hk => hg.block k hk (by rw [hv]; simp)⟩
    | some g => exact Kd.C_keep 0 hr (g := g) ⟨hg.size, fun i hi hne' _ => hg.block i hi (by rw [hv]; simpa using hne')⟩ (fun ad hA hn e => hne ad hA hn (by rw [hv, e]))
  · intro ad hA hn
    rcases hT ad hA hn with h | ⟨cs, h⟩
    · exact .inl h
    · exact .inr ⟨cs, (hg.block _ (lt_of_block h) (hne ad hA hn)).trans h⟩
theorem row_keep {base R : Nat} {wr W : World} {v : Value} {l : List S35} (h : Kd.R k35 35 wr base (fun j => j ≠ R) v l) (hk : KeepBut wr W R none) : Kd.R k35 35 W base (fun j => j ≠ R) v l := Kd.R_keep h hk (fun _ hk => hk)
theorem lastL_bad {l : List S35} {b : List Int} {e : Int} (h : e ≠ 0) : lastL (l, b, e) = ([], [], e) := by
  simp only [lastL]; rw [if_neg h]
theorem lastL_pool {l : List S35} {b : List Int} (h : checkL l ≠ 0) : lastL (l, b, 0) = ([], [], checkL l) := by
  simp only [lastL]; rw [if_pos trivial, if_neg h]
theorem lastL_ok {l : List S35} {b : List Int} (h : checkL l = 0) : lastL (l, b, 0) = (l, b, 0) := by
  simp only [lastL]; rw [if_pos trivial, if_pos h]
theorem sz35 : 0 < k35.sz := Nat.succ_pos 5
theorem by56 : 0 < 56 := Nat.succ_pos 55
/-- Parse's end -/
def ParsePost (base : Nat) (w0 : World) (r : List S35 × List Int × Int) (y : Ending) (w' : World) : Prop :=
  ∃ v1 v2 : Value, y = .returned (.tuple #[v1, v2, .int .i64 r.2.2]) ∧ Kd.R k35 35 w' base (fun _ => True) v1 r.1 ∧ Kd.R (Kd.int .u8) 5 w' base (fun _ => True) v2 r.2.1 ∧ Below base w0 w'
theorem clone_calls {l : List Int} {A : Option Addr} {n c : Nat} (w : World) (hr : Kd.C (Kd.int .u8) w A l.length l) (hn : l.length = n) (hc : n ≤ c) (hm : l.length ≤ 1000000000000) :
    Calls Tryd.prog 37 #[.slice A n c] w fun e w' => ∃ v : Value, e = .returned v ∧ Kd.R (Kd.int .u8) 5 w' w.heap.size (fun _ => True) v l ∧ Below w.heap.size w w' := by
  subst hn
  exact slices_Clone_byte_byte.calls A c l l w hr hc (by unfold slices_Clone_byte_byte.f; rw [if_pos (by omega)])
theorem below_tabs {w W : World} (hT : Tabs w) (hB : Below w.heap.size w W) : Tabs W := hT.below hB
set_option maxHeartbeats 8000000 in
set_option maxRecDepth 100000 in
theorem parse_err {b0 b1 : List Int} {N : Nat} {A : Option Addr} {n c : Nat} {e1 : Int} (w : World) (hT : Tabs w) (hRd : Rds w) (hby : Bytes b0) (hm : b0.length ≤ 1000000000000) (hr : Kd.C (Kd.int .u8) w A b0.length b0) (hn : b0.length = n) (hc : n ≤ c) (hv : takeU b0 = ((N : Int), b1, e1)) (he1 : e1 ≠ 0) :
    Calls Tryd.prog 13 #[.slice A n c] w (ParsePost w.heap.size w (lastL (allL N b1 e1))) := by
  subst hn
  have hkp := takeU_keep hby
  rw [hv] at hkp
  obtain ⟨hb1, hbl1, -, hN53⟩ : Bytes b1 ∧ b1.length ≤ b0.length ∧ (0 : Int) ≤ (N : Int) ∧ (N : Int) ≤ 9007199254740991 := hkp
  have HBY := Aside0.mk hb1
  have HM1 := Aside0.mk (show b1.length ≤ 1000000000000 by omega)
  have HT := Aside0.mk hT
  have HRD := Aside0.mk hRd
  have H0 := Aside0.mk hRd.lt
  have hS0 : RS w.heap.size w.heap.size (w.alloc (.cells #[.slice A b0.length c, .int .i64 0] 56)) b0 0 := ⟨A, c, heap_alloc_new w _, hc, Kd.C_alloc hr _, fun ad hA hn => .inl (by obtain ⟨ad', cc, e1, -, hk, hcc⟩ := Kd.C_get hr 0 0 (by omega) (by omega); rw [hA] at e1; injection e1 with e1; subst e1; have hk' : cc = [.int .u8 (b0.getD (0 : Int).toNat 0)] := hk; subst hk'; exact World.block_lt_of_cell? w _ (hcc 0 _ rfl))⟩
  have HN1 := Aside0.mk (numTakeU_calls hS0 hby (by omega) (Below.alloc (Below.refl w.heap.size w) (Nat.le_refl _) _) (Nat.le_refl _) (show numL takeU b0 0 = ((N : Int), b1, e1) by unfold numL; rw [if_pos rfl]; exact hv))
  obtain ⟨S, hS⟩ : ∃ S, allL N b1 e1 = S := ⟨_, rfl⟩
  rw [hS]
  have HALL := Aside0.mk hS
  have q1 : (e1 == 0) = false := beq_eq_false_iff_ne.2 he1
  have HN := Aside0.mk he1
  have HN53 := Aside0.mk hN53
  clear hT hRd hby hm hr hc hv hb1 hbl1 hS0 hS hN53
  go_enter Tryd.func13, Tryd.ntmps13
  go_wp2_with fail
  refine HN1.out.mono ?_
  rintro y w1 ⟨rfl, hS1, hB1, hK1⟩
  have HS2 := Aside0.mk hS1
  have HB2 := Aside0.mk hB1
  obtain ⟨A1, c1, hR1, -, -, -⟩ := hS1
  have r1 : w1.cell? ⟨w.heap.size, 1, none⟩ = some (.int .i64 e1) := cell_of_row _ _ 1 _ _ _ hR1
  clear hB1 hK1 hR1 HN1 he1
  go_wp2
  go_loopw [7, 2] (fun i v wr => ∃ (k : Nat) (vv : Value) (l : List S35) (b : List Int) (e : Int), i = .int .i64 (k : Int) ∧ v = vv ∧ k ≤ N ∧ Aside0 (PInv N b1 e1 S k l b e) ∧ Aside0 (Kd.R k35 35 wr w.heap.size (fun j => j ≠ w.heap.size) vv l) ∧ Aside0 (RS w.heap.size w.heap.size wr b e) ∧ Aside0 (Below w.heap.size w wr)) (fun i _ _ => N - (RowKit.intOf i).toNat)
  case atStart => exact ⟨0, _, [], b1, e1, rfl, rfl, by omega, ⟨PInv.start HBY.out⟩, ⟨Kd.R_nil _ _ _ _ _⟩, HS2, HB2⟩
  case round =>
    obtain ⟨k, vv, l, b, e, rfl, hv', hk, HI, HO, HS3, HB3⟩ := hrel
    have hv'' := hv'.symm
    subst hv''
    clear HS2 HB2
    obtain ⟨A2, c2, hR3, hl2, hC2, -⟩ := HS3.out
    have r0 : wr.cell? ⟨w.heap.size, 0, none⟩ = some (.slice A2 b.length c2) := cell_of_row _ _ 0 _ _ _ hR3
    have r1 : wr.cell? ⟨w.heap.size, 1, none⟩ = some (.int .i64 e) := cell_of_row _ _ 1 _ _ _ hR3
    have hRl := lt_of_block hR3
    have HRL := Aside0.mk hRl
    clear hR3 hl2 hC2
    by_cases he : e = 0
    · subst he
      exact absurd HI.out.pe0 HN.out
    · have HEND := Aside0.mk (HI.out.done HALL.out (.inl he))
      have q1 : (e == 0) = false := beq_eq_false_iff_ne.2 he
      have q2 : (e != 0) = true := bne_iff_ne.2 he
      have HE := Aside0.mk he
      clear he
      by_cases hlt : k < N
      · have hltz : decide ((k : Int) < (N : Int)) = true := decide_eq_true (by omega)
        go_wp2
        repeat (go_quiet (fail); try go_wp2)
        go_ret3
        rw [HEND.out, lastL_bad HE.out]
        exact ⟨_, _, rfl, Kd.R_nil _ _ _ _ _, Kd.R_nil _ _ _ _ _, pw_below_drewN HB3.out _⟩
      · have hltz : decide ((k : Int) < (N : Int)) = false := decide_eq_false (by omega)
        go_wp2
        repeat (go_quiet (fail); try go_wp2)
        go_ret3
        rw [HEND.out, lastL_bad HE.out]
        exact ⟨_, _, rfl, Kd.R_nil _ _ _ _ _, Kd.R_nil _ _ _ _ _, pw_below_drewN HB3.out _⟩
set_option maxHeartbeats 8000000 in
set_option maxRecDepth 100000 in
theorem parse_far {b0 b1 : List Int} {N : Nat} {A : Option Addr} {n c : Nat} {e1 : Int} (w : World) (hT : Tabs w) (hRd : Rds w) (hby : Bytes b0) (hm : b0.length ≤ 1000000000000) (hr : Kd.C (Kd.int .u8) w A b0.length b0) (hn : b0.length = n) (hc : n ≤ c) (hv : takeU b0 = ((N : Int), b1, e1)) (he1 : e1 = 0) (hN : 4096 < N) :
    Calls Tryd.prog 13 #[.slice A n c] w (ParsePost w.heap.size w (lastL (allL N b1 5))) := by
  subst hn
  have hkp := takeU_keep hby
  rw [hv] at hkp
  obtain ⟨hb1, hbl1, -, hN53⟩ : Bytes b1 ∧ b1.length ≤ b0.length ∧ (0 : Int) ≤ (N : Int) ∧ (N : Int) ≤ 9007199254740991 := hkp
  have HBY := Aside0.mk hb1
  have HM1 := Aside0.mk (show b1.length ≤ 1000000000000 by omega)
  have HT := Aside0.mk hT
  have HRD := Aside0.mk hRd
  have H0 := Aside0.mk hRd.lt
  have hS0 : RS w.heap.size w.heap.size (w.alloc (.cells #[.slice A b0.length c, .int .i64 0] 56)) b0 0 := ⟨A, c, heap_alloc_new w _, hc, Kd.C_alloc hr _, fun ad hA hn => .inl (by obtain ⟨ad', cc, e1, -, hk, hcc⟩ := Kd.C_get hr 0 0 (by omega) (by omega); rw [hA] at e1; injection e1 with e1; subst e1; have hk' : cc = [.int .u8 (b0.getD (0 : Int).toNat 0)] := hk; subst hk'; exact World.block_lt_of_cell? w _ (hcc 0 _ rfl))⟩
  have HN1 := Aside0.mk (numTakeU_calls hS0 hby (by omega) (Below.alloc (Below.refl w.heap.size w) (Nat.le_refl _) _) (Nat.le_refl _) (show numL takeU b0 0 = ((N : Int), b1, e1) by unfold numL; rw [if_pos rfl]; exact hv))
  obtain ⟨S, hS⟩ : ∃ S, allL N b1 5 = S := ⟨_, rfl⟩
  rw [hS]
  have HALL := Aside0.mk hS
  subst he1
  have q1 : decide ((4096 : Int) < (N : Int)) = true := decide_eq_true (by omega)
  have q2 : 4096 < N := hN
  skip
  have HN53 := Aside0.mk hN53
  clear hT hRd hby hm hr hc hv hb1 hbl1 hS0 hS hN53
  go_enter Tryd.func13, Tryd.ntmps13
  go_wp2_with fail
  refine HN1.out.mono ?_
  rintro y w1 ⟨rfl, hS1, hB1, hK1⟩
  have HS2 := Aside0.mk (rs_err hS1 5)
  have HB2 := Aside0.mk (Below.setCell (p := ⟨w.heap.size, 1, none⟩) hB1 (Nat.le_refl _) (.int .i64 5))
  obtain ⟨A1, c1, hR1, -, -, -⟩ := hS1
  have r1 : w1.cell? ⟨w.heap.size, 1, none⟩ = some (.int .i64 0) := cell_of_row _ _ 1 _ _ _ hR1
  have f1 := free_of_cells hR1 1
  clear hB1 hK1 hR1 HN1 hN
  go_wp2
  go_loopw [7, 2] (fun i v wr => ∃ (k : Nat) (vv : Value) (l : List S35) (b : List Int) (e : Int), i = .int .i64 (k : Int) ∧ v = vv ∧ k ≤ N ∧ Aside0 (PInv N b1 5 S k l b e) ∧ Aside0 (Kd.R k35 35 wr w.heap.size (fun j => j ≠ w.heap.size) vv l) ∧ Aside0 (RS w.heap.size w.heap.size wr b e) ∧ Aside0 (Below w.heap.size w wr)) (fun i _ _ => N - (RowKit.intOf i).toNat)
  case atStart => exact ⟨0, _, [], b1, 5, rfl, rfl, by omega, ⟨PInv.start HBY.out⟩, ⟨Kd.R_nil _ _ _ _ _⟩, HS2, HB2⟩
  case round =>
    obtain ⟨k, vv, l, b, e, rfl, hv', hk, HI, HO, HS3, HB3⟩ := hrel
    have hv'' := hv'.symm
    subst hv''
    clear HS2 HB2
    obtain ⟨A2, c2, hR3, hl2, hC2, -⟩ := HS3.out
    have r0 : wr.cell? ⟨w.heap.size, 0, none⟩ = some (.slice A2 b.length c2) := cell_of_row _ _ 0 _ _ _ hR3
    have r1 : wr.cell? ⟨w.heap.size, 1, none⟩ = some (.int .i64 e) := cell_of_row _ _ 1 _ _ _ hR3
    have hRl := lt_of_block hR3
    have HRL := Aside0.mk hRl
    clear hR3 hl2 hC2
    by_cases he : e = 0
    · subst he
      exact absurd HI.out.pe0 (by decide)
    · have HEND := Aside0.mk (HI.out.done HALL.out (.inl he))
      have q1 : (e == 0) = false := beq_eq_false_iff_ne.2 he
      have q2 : (e != 0) = true := bne_iff_ne.2 he
      have HE := Aside0.mk he
      clear he
      by_cases hlt : k < N
      · have hltz : decide ((k : Int) < (N : Int)) = true := decide_eq_true (by omega)
        go_wp2
        repeat (go_quiet (fail); try go_wp2)
        go_ret3
        rw [HEND.out, lastL_bad HE.out]
        exact ⟨_, _, rfl, Kd.R_nil _ _ _ _ _, Kd.R_nil _ _ _ _ _, pw_below_drewN HB3.out _⟩
      · have hltz : decide ((k : Int) < (N : Int)) = false := decide_eq_false (by omega)
        go_wp2
        repeat (go_quiet (fail); try go_wp2)
        go_ret3
        rw [HEND.out, lastL_bad HE.out]
        exact ⟨_, _, rfl, Kd.R_nil _ _ _ _ _, Kd.R_nil _ _ _ _ _, pw_below_drewN HB3.out _⟩
set_option maxHeartbeats 8000000 in
set_option maxRecDepth 100000 in
theorem parse_all {b0 b1 : List Int} {N : Nat} {A : Option Addr} {n c : Nat} {e1 : Int} (w : World) (hT : Tabs w) (hRd : Rds w) (hby : Bytes b0) (hm : b0.length ≤ 1000000000000) (hr : Kd.C (Kd.int .u8) w A b0.length b0) (hn : b0.length = n) (hc : n ≤ c) (hv : takeU b0 = ((N : Int), b1, e1)) (he1 : e1 = 0) (hN : N ≤ 4096) :
    Calls Tryd.prog 13 #[.slice A n c] w (ParsePost w.heap.size w (lastL (allL N b1 0))) := by
  subst hn
  have hkp := takeU_keep hby
  rw [hv] at hkp
  obtain ⟨hb1, hbl1, -, hN53⟩ : Bytes b1 ∧ b1.length ≤ b0.length ∧ (0 : Int) ≤ (N : Int) ∧ (N : Int) ≤ 9007199254740991 := hkp
  have HBY := Aside0.mk hb1
  have HM1 := Aside0.mk (show b1.length ≤ 1000000000000 by omega)
  have HT := Aside0.mk hT
  have HRD := Aside0.mk hRd
  have H0 := Aside0.mk hRd.lt
  have hS0 : RS w.heap.size w.heap.size (w.alloc (.cells #[.slice A b0.length c, .int .i64 0] 56)) b0 0 := ⟨A, c, heap_alloc_new w _, hc, Kd.C_alloc hr _, fun ad hA hn => .inl (by obtain ⟨ad', cc, e1, -, hk, hcc⟩ := Kd.C_get hr 0 0 (by omega) (by omega); rw [hA] at e1; injection e1 with e1; subst e1; have hk' : cc = [.int .u8 (b0.getD (0 : Int).toNat 0)] := hk; subst hk'; exact World.block_lt_of_cell? w _ (hcc 0 _ rfl))⟩
  have HN1 := Aside0.mk (numTakeU_calls hS0 hby (by omega) (Below.alloc (Below.refl w.heap.size w) (Nat.le_refl _) _) (Nat.le_refl _) (show numL takeU b0 0 = ((N : Int), b1, e1) by unfold numL; rw [if_pos rfl]; exact hv))
  obtain ⟨S, hS⟩ : ∃ S, allL N b1 0 = S := ⟨_, rfl⟩
  rw [hS]
  have HALL := Aside0.mk hS
  subst he1
  have q1 : decide ((4096 : Int) < (N : Int)) = false := decide_eq_false (by omega)
  have q2 : ¬ 4096 < N := by omega
  have HN := Aside0.mk hN
  have HN53 := Aside0.mk hN53
  clear hT hRd hby hm hr hc hv hb1 hbl1 hS0 hS hN53
  go_enter Tryd.func13, Tryd.ntmps13
  go_wp2_with fail
  refine HN1.out.mono ?_
  rintro y w1 ⟨rfl, hS1, hB1, hK1⟩
  have HS2 := Aside0.mk hS1
  have HB2 := Aside0.mk hB1
  obtain ⟨A1, c1, hR1, -, -, -⟩ := hS1
  have r1 : w1.cell? ⟨w.heap.size, 1, none⟩ = some (.int .i64 0) := cell_of_row _ _ 1 _ _ _ hR1
  clear hB1 hK1 hR1 HN1 hN
  go_wp2
  go_loopw [7, 2] (fun i v wr => ∃ (k : Nat) (vv : Value) (l : List S35) (b : List Int) (e : Int), i = .int .i64 (k : Int) ∧ v = vv ∧ k ≤ N ∧ Aside0 (PInv N b1 0 S k l b e) ∧ Aside0 (Kd.R k35 35 wr w.heap.size (fun j => j ≠ w.heap.size) vv l) ∧ Aside0 (RS w.heap.size w.heap.size wr b e) ∧ Aside0 (Below w.heap.size w wr)) (fun i _ _ => N - (RowKit.intOf i).toNat)
  case atStart => exact ⟨0, _, [], b1, 0, rfl, rfl, by omega, ⟨PInv.start HBY.out⟩, ⟨Kd.R_nil _ _ _ _ _⟩, HS2, HB2⟩
  case round =>
    obtain ⟨k, vv, l, b, e, rfl, hv', hk, HI, HO, HS3, HB3⟩ := hrel
    have hv'' := hv'.symm
    subst hv''
    clear HS2 HB2
    obtain ⟨A2, c2, hR3, hl2, hC2, -⟩ := HS3.out
    have r0 : wr.cell? ⟨w.heap.size, 0, none⟩ = some (.slice A2 b.length c2) := cell_of_row _ _ 0 _ _ _ hR3
    have r1 : wr.cell? ⟨w.heap.size, 1, none⟩ = some (.int .i64 e) := cell_of_row _ _ 1 _ _ _ hR3
    have hRl := lt_of_block hR3
    have HRL := Aside0.mk hRl
    clear hR3 hl2 hC2
    by_cases he : e = 0
    · subst he
      by_cases hlt : k < N
      · have hltz : decide ((k : Int) < (N : Int)) = true := decide_eq_true (by omega)
        have h4096 : N ≤ 4096 := HN.out
        have hk1 : ((k : Int) + 1) ≤ 4097 := by omega
        have HLL := Aside0.mk (show (l.length + 1) * 56 ≤ 140737488355328 by have := HI.out.len; omega)
        have HOa := Aside0.mk (fun (o : Obj) => row_keep HO.out (KeepBut.of_below (below_alloc (Below.refl _ _) o) w.heap.size none))
        have HWa := Aside0.mk (fun (o : Obj) => show w.heap.size ≤ (wr.alloc o).heap.size by rw [World.size_alloc]; omega)
        have HBa := Aside0.mk (fun (o : Obj) => Below.alloc HB3.out (Nat.le_of_lt hRl) o)
        have HSa := Aside0.mk (fun (o : Obj) => rs_below HS3.out (below_alloc (Below.refl _ _) o))
        have HFa := Aside0.mk (fun (o : Obj) (k : Nat) (hk : (wr.alloc o).heap.size ≤ k) => show k ≠ w.heap.size by rw [World.size_alloc] at hk; omega)
        have HI2 := HI.out
        by_cases hk0 : k = 0
        · subst hk0
          have HI3 := Aside0.mk (HI2.first HALL.out hlt).2
          clear HI2
          go_wp2_with (at_builtin; go_loud (refine Kd.R_append k35 (w0 := w) w.heap.size rfl (.tmp 48) (.tmp 50) 24 35 (.agg #[.int .i64 0, .string ⟨#[]⟩, .int .i64 0, .int .i64 0, .int .i64 0, .int .i64 0]) 56 rfl Tryd.underlying24 info35 rfl sz35 by56 vv l zero35 [.int .i64 0, .string ⟨#[]⟩, .int .i64 0, .int .i64 0, .int .i64 0, .int .i64 0] (fun j => j ≠ w.heap.size) (fun _ => False) rfl ?aX ?aP (fun _ hk => hk.elim) ?aF ?aO ?aB ?aS ?aL ?_); (case aX => exact congrArg (fun s => Value.slice (some ⟨s, 0, none⟩) 1 1) (World.size_alloc (w := wr) _).symm); (case aP => exact k35_mkM _ _ _ zero35); (case aF => exact (HFa.out _)); (case aO => exact (HOa.out _)); (case aB => exact (HBa.out _)); (case aS => exact (HWa.out _)); (case aL => exact HLL.out); intro v1 w5 ho hb hg hat; go_loud (have HO5 := Aside0.mk ho); go_loud (have HB5 := Aside0.mk hb); go_loud (have HS5 := Aside0.mk (rs_grown (HSa.out _) (HOa.out _) HO.out.1 hg)); clear ho hb hg hat)
          go_wp2
          go_roundw
          case rel => exact ⟨1, v1, l ++ [zero35], b, 0, rfl, rfl, by omega, HI3, HO5, HS5, HB5⟩
          case measure => simp [RowKit.intOf]; omega
        · have hkp : 0 < k := by omega
          have hkz : decide ((0 : Int) < (k : Int)) = true := decide_eq_true (by omega)
          have hI3 := HI2.next (by omega) hlt HM1.out
          have hone := fun (o : Obj) => one_calls (HSa.out o) HI2.1.1 (by have := HI2.1.2.1; have := HM1.out; omega) (HRD.out.from (HBa.out o) H0.out) (HBa.out o) (Nat.le_refl _) H0.out
          obtain ⟨⟨⟨x0, x1, x2, x3, x4, x5⟩, b', e'⟩, hx⟩ : ∃ r, oneL b = r := ⟨_, rfl⟩
          rw [hx] at hI3 hone
          have HI3 := Aside0.mk hI3
          have HONE := Aside0.mk hone
          have HHX := Aside0.mk hx
          have hne : wr.heap.size ≠ w.heap.size := by omega
          clear HI2 hI3 hone hx
          go_wp2_with fail
          refine (HONE.out _).mono ?_
          rintro y w1' ⟨rfl, hS4, hB4, hK4⟩
          simp only [agg35]
          have hC1 := cs_keep (cs_new wr) hK4 hne
          have hC1' : w1'.heap[wr.heap.size]? = some (.cells #[.int .i64 0, .string E0, .int .i64 0, .int .i64 0, .int .i64 0, .int .i64 0] 35 (0, 0)) := hC1
          have y0 : w1'.cell? ⟨wr.heap.size, 0, none⟩ = some (.int .i64 0) := cell_of_row _ _ 0 _ _ _ hC1'
          have y1 : w1'.cell? ⟨wr.heap.size, 1, none⟩ = some (.string E0) := cell_of_row _ _ 1 _ _ _ hC1'
          have y2 : w1'.cell? ⟨wr.heap.size, 2, none⟩ = some (.int .i64 0) := cell_of_row _ _ 2 _ _ _ hC1'
          have y3 : w1'.cell? ⟨wr.heap.size, 3, none⟩ = some (.int .i64 0) := cell_of_row _ _ 3 _ _ _ hC1'
          have y4 : w1'.cell? ⟨wr.heap.size, 4, none⟩ = some (.int .i64 0) := cell_of_row _ _ 4 _ _ _ hC1'
          have y5 : w1'.cell? ⟨wr.heap.size, 5, none⟩ = some (.int .i64 0) := cell_of_row _ _ 5 _ _ _ hC1'
          have k0 := free_of_cells hC1' 0
          have k1 := free_of_cells hC1' 1
          have k2 := free_of_cells hC1' 2
          have k3 := free_of_cells hC1' 3
          have k4 := free_of_cells hC1' 4
          have k5 := free_of_cells hC1' 5
          have hE := one_end hS4 hC1 hne hB4 (Nat.le_of_lt hRl) (keep_weak hK4 _) (.int .i64 x0) (.string x1) (.int .i64 x2) (.int .i64 x3) (.int .i64 x4) (.int .i64 x5)
          have HS6 := Aside0.mk hE.1
          have HB6 := Aside0.mk hE.2.1
          have HO6 := Aside0.mk (row_keep HO.out hE.2.2)
          have hsz : (six w1' wr.heap.size (.int .i64 x0) (.string x1) (.int .i64 x2) (.int .i64 x3) (.int .i64 x4) (.int .i64 x5)).heap.size = w1'.heap.size := by simp [six]
          have hlt1 : w.heap.size < w1'.heap.size := by have := lt_of_block hC1'; omega
          have HSZ6 := Aside0.mk hsz
          have HW6 := Aside0.mk (show w.heap.size ≤ (six w1' wr.heap.size (.int .i64 x0) (.string x1) (.int .i64 x2) (.int .i64 x3) (.int .i64 x4) (.int .i64 x5)).heap.size by rw [hsz]; omega)
          have HF6 := Aside0.mk (fun (k : Nat) (hk : (six w1' wr.heap.size (.int .i64 x0) (.string x1) (.int .i64 x2) (.int .i64 x3) (.int .i64 x4) (.int .i64 x5)).heap.size ≤ k) => show k ≠ w.heap.size by rw [hsz] at hk; omega)
          clear hS4 hC1 hC1' hB4 hK4 hE hsz hlt1
          go_wp2_with (at_builtin; go_loud (refine Kd.R_append k35 (w0 := w) w.heap.size rfl (.tmp 48) (.tmp 50) 24 35 (.agg #[.int .i64 0, .string ⟨#[]⟩, .int .i64 0, .int .i64 0, .int .i64 0, .int .i64 0]) 56 rfl Tryd.underlying24 info35 rfl sz35 by56 vv l ⟨x0, x1, x2, x3, x4, x5⟩ [.int .i64 x0, .string x1, .int .i64 x2, .int .i64 x3, .int .i64 x4, .int .i64 x5] (fun j => j ≠ w.heap.size) (fun _ => False) rfl ?aX ?aP (fun _ hk => hk.elim) ?aF ?aO ?aB ?aS ?aL ?_); (case aX => exact congrArg (fun s => Value.slice (some ⟨s, 0, none⟩) 1 1) HSZ6.out.symm); (case aP => exact k35_mkM _ _ _ ⟨x0, x1, x2, x3, x4, x5⟩); (case aF => exact HF6.out); (case aO => exact HO6.out); (case aB => exact HB6.out); (case aS => exact HW6.out); (case aL => exact HLL.out); intro v1 w5 ho hb hg hat; go_loud (have HO5 := Aside0.mk ho); go_loud (have HB5 := Aside0.mk hb); go_loud (have HS5 := Aside0.mk (rs_grown HS6.out HO6.out HO.out.1 hg)); clear ho hb hg hat)
          go_wp2
          go_roundw
          case rel => exact ⟨k + 1, v1, l ++ [⟨x0, x1, x2, x3, x4, x5⟩], b', e', by go_num, rfl, by omega, HI3, HO5, HS5, HB5⟩
          case measure => simp [RowKit.intOf]; omega
      · have hltz : decide ((k : Int) < (N : Int)) = false := decide_eq_false (by omega)
        have HEND := Aside0.mk (HI.out.done HALL.out (.inr (by omega)))
        have hsm : Small l := fun x hx => by have := HI.out.1.2.2 x hx; have := HM1.out; omega
        have hlen := HI.out.len
        have hbl := HI.out.1.2.1
        have HBL := Aside0.mk hbl
        obtain ⟨AL, cl, rfl, hll, hCL⟩ := Kd.R_reads HO.out
        have hCK := check_calls wr (below_tabs HT.out HB3.out) hsm hCL rfl hll (by have := HN53.out; omega)
        obtain ⟨ck, hck⟩ : ∃ ck, checkL l = ck := ⟨_, rfl⟩
        have HCKE := Aside0.mk hck
        rw [hck] at hCK
        have HCK := Aside0.mk hCK
        clear hCK hck hll hCL hlen hbl hsm
        go_wp2_with fail
        refine HCK.out.mono ?_
        rintro y w2 ⟨rfl, hb2⟩
        have hS4 := rs_below HS3.out hb2
        obtain ⟨A3, c3, hR4, hl4, hC4, -⟩ := hS4
        have s0 : w2.cell? ⟨w.heap.size, 0, none⟩ = some (.slice A3 b.length c3) := cell_of_row _ _ 0 _ _ _ hR4
        have s1 : w2.cell? ⟨w.heap.size, 1, none⟩ = some (.int .i64 0) := cell_of_row _ _ 1 _ _ _ hR4
        have g1 := free_of_cells hR4 1
        have HB4 := Aside0.mk (Below.setCell (p := ⟨w.heap.size, 1, none⟩) (below_then HB3.out (Nat.le_of_lt HRL.out) hb2) (Nat.le_refl _) (.int .i64 ck))
        have HO4 := Aside0.mk (row_keep (Kd.R_below HO.out hb2) (KeepBut.set_ (KeepBut.refl w2 w.heap.size none) 1 (.int .i64 ck)))
        have HW4 := Aside0.mk (show w.heap.size ≤ (w2.setCell ⟨w.heap.size, 1, none⟩ (.int .i64 ck)).heap.size by rw [World.size_setCell]; have := hb2.size; omega)
        by_cases hc0 : ck = 0
        · subst hc0
          have HCL := Aside0.mk (clone_calls _ (c_set hC4 hR4 1 (.int .i64 0)) rfl hl4 (by have := HBL.out; have := HM1.out; omega))
          clear hR4 hl4 hC4 hb2
          go_wp2_with fail
          refine HCL.out.mono ?_
          rintro y w4 ⟨v2, rfl, ho2, hb4⟩
          have HP := Aside0.mk (Kd.R_mono (ok' := fun _ => True) (Kd.R_below HO4.out hb4) (fun _ _ => trivial))
          have HQ := Aside0.mk (Kd.R_lower ho2 HW4.out)
          have HB5 := Aside0.mk (below_then HB4.out HW4.out hb4)
          clear ho2 hb4
          go_wp2
          go_ret3
          rw [HEND.out, lastL_ok HCKE.out]
          exact ⟨_, v2, rfl, HP.out, HQ.out, HB5.out⟩
        · have q1 : (ck == 0) = false := beq_eq_false_iff_ne.2 hc0
          have q2 : (ck != 0) = true := bne_iff_ne.2 hc0
          have HC0 := Aside0.mk hc0
          clear hR4 hl4 hC4 hb2 hc0
          go_wp2
          repeat (go_quiet (fail); try go_wp2)
          go_ret3
          rw [HEND.out, lastL_pool (by rw [HCKE.out]; exact HC0.out), HCKE.out]
          exact ⟨_, _, rfl, Kd.R_nil _ _ _ _ _, Kd.R_nil _ _ _ _ _, pw_below_drewN HB4.out _⟩
    · have HEND := Aside0.mk (HI.out.done HALL.out (.inl he))
      have q1 : (e == 0) = false := beq_eq_false_iff_ne.2 he
      have q2 : (e != 0) = true := bne_iff_ne.2 he
      have HE := Aside0.mk he
      clear he
      by_cases hlt : k < N
      · have hltz : decide ((k : Int) < (N : Int)) = true := decide_eq_true (by omega)
        go_wp2
        repeat (go_quiet (fail); try go_wp2)
        go_ret3
        rw [HEND.out, lastL_bad HE.out]
        exact ⟨_, _, rfl, Kd.R_nil _ _ _ _ _, Kd.R_nil _ _ _ _ _, pw_below_drewN HB3.out _⟩
      · have hltz : decide ((k : Int) < (N : Int)) = false := decide_eq_false (by omega)
        go_wp2
        repeat (go_quiet (fail); try go_wp2)
        go_ret3
        rw [HEND.out, lastL_bad HE.out]
        exact ⟨_, _, rfl, Kd.R_nil _ _ _ _ _, Kd.R_nil _ _ _ _ _, pw_below_drewN HB3.out _⟩
/-- pool.Parse -/
theorem parse_calls {b0 : List Int} {A : Option Addr} {n c : Nat} (w : World) (hT : Tabs w) (hRd : Rds w) (hby : Bytes b0) (hm : b0.length ≤ 1000000000000) (hr : Kd.C (Kd.int .u8) w A b0.length b0) (hn : b0.length = n) (hc : n ≤ c) :
    Calls Tryd.prog 13 #[.slice A n c] w (ParsePost w.heap.size w (parseL b0)) := by
  have hkp := takeU_keep hby
  obtain ⟨N, b1, e1, hv⟩ : ∃ (N : Int) (b1 : List Int) (e1 : Int), takeU b0 = (N, b1, e1) := ⟨_, _, _, rfl⟩
  rw [hv] at hkp
  obtain ⟨N, rfl⟩ : ∃ N' : Nat, N = (N' : Int) := ⟨N.toNat, (Int.toNat_of_nonneg hkp.2.2.1).symm⟩
  unfold parseL
  rw [hv]
  by_cases he : e1 = 0
  · by_cases hN : 4096 < N
    · have e : parseL1 ((N : Int), b1, e1) = lastL (allL N b1 5) := by
        subst he
        simp only [parseL1, allL]
        rw [if_pos trivial, if_pos (by omega), if_neg (by decide), lastL_bad (by decide)]
      rw [e]; exact parse_far w hT hRd hby hm hr hn hc hv he hN
    · have e : parseL1 ((N : Int), b1, e1) = lastL (allL N b1 0) := by
        subst he
        simp only [parseL1, allL]
        rw [if_pos trivial, if_neg (by omega), if_pos trivial]
      rw [e]; exact parse_all w hT hRd hby hm hr hn hc hv he (by omega)
  · have e : parseL1 ((N : Int), b1, e1) = lastL (allL N b1 e1) := by
      simp only [parseL1, allL]
      rw [if_neg he, if_neg he, lastL_bad he]
    rw [e]; exact parse_err w hT hRd hby hm hr hn hc hv he
end Go.Proofs.YtkhigagkgpfpfaaDoor.Ext

/- The reader of package pool, walked: a number, so many bytes. -/
import Derived.Test.YtkhigagkgpfpfaaDoorPoolSpec
import Derived.Laws.EntriesVeiled
set_option linter.unusedVariables false
set_option linter.unusedSimpArgs false
namespace Go.Proofs.YtkhigagkgpfpfaaDoor.Ext
open Go.RowKit Go.Lib Go.Proofs.YtkhigagkgpfpfaaDoorW.PrintWords Go.Proofs.YtkhigagkgpfpfaaDoorW.PrintLast Go.Proofs.YtkhigagkgpfpfaaDoorW.PrintMore Go.Proofs.YtkhigagkgpfpfaaDoor.PLeb
attribute [local go_sem] max2_int min2_int max_two min_two max_three min_three max_four min_four

theorem cells_set {w : World} {R j : Nat} {C C' : Array Value} {t : TypeId} {fz : Nat × Nat} {u : Value} (h : w.heap[R]? = some (.cells C t fz)) (e : C.setIfInBounds j u = C') : (w.setCell ⟨R, j, none⟩ u).heap[R]? = some (.cells C' t fz) := by
  subst e
  show (w.heap.modify R _)[R]? = _
  rw [Array.getElem?_modify, if_pos rfl, h]; rfl
theorem free_of_cells {w : World} {R : Nat} {C : Array Value} {t : TypeId} (h : w.heap[R]? = some (.cells C t (0, 0))) (j : Nat) : w.frozen? ⟨R, j, none⟩ = false := by simp [World.frozen?, h]
/-- a row that lies below a number, or in a block of bytes -/
def TB (base : Nat) (w : World) (A : Option Addr) (n : Nat) : Prop := ∀ ad, A = some ad → 0 < n → ad.block < base ∨ ∃ cs, w.heap[ad.block]? = some (.cells cs 5 (0, 0))
theorem TB.below {base : Nat} {w w1 : World} {A : Option Addr} {n : Nat} (h : TB base w A n) (hb : Below w.heap.size w w1) : TB base w1 A n := by
  intro ad hA hn
  rcases h ad hA hn with h | ⟨cs, h⟩
  · exact .inl h
  · exact .inr ⟨cs, (hb.block _ (lt_of_block h)).trans h⟩
theorem TB.set {base : Nat} {w : World} {A : Option Addr} {n : Nat} (h : TB base w A n) (R j : Nat) (u : Value) : TB base (w.setCell ⟨R, j, none⟩ u) A n := by
  intro ad hA hn
  rcases h ad hA hn with h | ⟨cs, h⟩
  · exact .inl h
  · by_cases hR : ad.block = R
    · rw [hR] at h ⊢; exact .inr ⟨_, cells_set h rfl⟩
    · exact .inr ⟨cs, (Below.heap_setCell w ⟨R, j, none⟩ u _ hR).trans h⟩
theorem TB.keep {base : Nat} {w w1 : World} {A : Option Addr} {n C : Nat} {cs0 : Array Value} {t : TypeId} (h : TB base w A n) (hC : w.heap[C]? = some (.cells cs0 t (0, 0))) (ht : t ≠ 5) (hk : KeepBut w w1 C none) : TB base w1 A n := by
  intro ad hA hn
  rcases h ad hA hn with h | ⟨cs, h⟩
  · exact .inl h
  · refine .inr ⟨cs, (hk.2 _ (lt_of_block h) (fun e => ?_) (by simp)).trans h⟩
    rw [e, hC] at h
    injection h with h
    injection h with _ h _
    exact ht h
theorem TB.cut {base : Nat} {w : World} {A A' : Option Addr} {n n' : Nat} (h : TB base w A n) (hn : n' ≤ n) (hA : ∀ ad', A' = some ad' → ∃ ad, A = some ad ∧ ad'.block = ad.block) : TB base w A' n' := by
  intro ad' hA' hn'
  obtain ⟨ad, hA, e⟩ := hA ad' hA'
  rw [e]
  exact h ad hA (by omega)
theorem TB.own {base : Nat} {w : World} {v : Value} {A : Option Addr} {n c : Nat} {b : List Int} {m : Nat} {ok : Nat → Prop} (h : Kd.R (Kd.int .u8) 5 w m ok (.slice A n c) b) : TB base w A n := by
  intro ad hA hn
  obtain ⟨inner, ho⟩ := Kd.R_own h
  subst hA
  exact .inr (own_typed ho ad.block rfl)
/-- the reader's block: what is left, and the first error -/
def RS (base R : Nat) (w : World) (b : List Int) (e : Int) : Prop :=
  ∃ (A : Option Addr) (c : Nat), w.heap[R]? = some (.cells #[.slice A b.length c, .int .i64 e] 56 (0, 0)) ∧ b.length ≤ c ∧ Kd.C (Kd.int .u8) w A b.length b ∧ TB base w A b.length
/-- A row of bytes lies in none of a block of a slice and an error. -/
theorem c_ne {w : World} {A : Option Addr} {n R n0 c0 : Nat} {b : List Int} {A0 : Option Addr} {e : Int} {t : TypeId} (h : Kd.C (Kd.int .u8) w A n b) (hR : w.heap[R]? = some (.cells #[.slice A0 n0 c0, .int .i64 e] t (0, 0))) : ∀ ad, A = some ad → 0 < n → ad.block ≠ R := by
  intro ad hA hn hb
  obtain ⟨ad', c, e1, hl, hk, hc⟩ := Kd.C_get h 0 0 (by omega) (by omega)
  have hk' : c = [.int .u8 (b.getD (0 : Int).toNat 0)] := hk
  subst hk'
  rw [hA] at e1
  injection e1 with e1
  subst e1
  have h0 : w.cell? ad = some (.int .u8 (b.getD (0 : Int).toNat 0)) := hc 0 _ rfl
  unfold World.cell? at h0
  rw [hb, hR] at h0
  simp only at h0
  split at h0
  · cases h0
  · generalize ad.off = o at h0
    match o, h0 with
    | 0, h0 => simp at h0
    | 1, h0 => simp at h0
    | o + 2, h0 => simp at h0
theorem c_set {w : World} {A : Option Addr} {n R n0 c0 : Nat} {b : List Int} {A0 : Option Addr} {e : Int} {t : TypeId} (h : Kd.C (Kd.int .u8) w A n b) (hR : w.heap[R]? = some (.cells #[.slice A0 n0 c0, .int .i64 e] t (0, 0))) (j : Nat) (u : Value) : Kd.C (Kd.int .u8) (w.setCell ⟨R, j, none⟩ u) A n b :=
  Kd.C_keep 0 h (KeepBut.set_ (KeepBut.refl w R none) j u) (c_ne h hR)
theorem rs_both {base : Nat} {w : World} {R n0 c0 c : Nat} {A0 A : Option Addr} {e e' : Int} {b : List Int} (hR : w.heap[R]? = some (.cells #[.slice A0 n0 c0, .int .i64 e] 56 (0, 0))) (hl : b.length ≤ c) (hC : Kd.C (Kd.int .u8) w A b.length b) (hT : TB base w A b.length) :
    RS base R ((w.setCell ⟨R, 0, none⟩ (.slice A b.length c)).setCell ⟨R, 1, none⟩ (.int .i64 e')) b e' := by
  have h1 : (w.setCell ⟨R, 0, none⟩ (.slice A b.length c)).heap[R]? = some (.cells #[.slice A b.length c, .int .i64 e] 56 (0, 0)) := cells_set hR rfl
  exact ⟨A, c, cells_set h1 rfl, hl, c_set (c_set hC hR 0 _) h1 1 _, (hT.set R 0 _).set R 1 _⟩
theorem rs_err {base : Nat} {w : World} {R : Nat} {e : Int} {b : List Int} (h : RS base R w b e) (e' : Int) : RS base R (w.setCell ⟨R, 1, none⟩ (.int .i64 e')) b e' := by
  obtain ⟨A, c, hR, hl, hC, hT⟩ := h
  exact ⟨A, c, cells_set hR rfl, hl, c_set hC hR 1 _, hT.set R 1 _⟩
theorem rs_row {base : Nat} {w : World} {R n0 c0 c : Nat} {A0 A : Option Addr} {e : Int} {b : List Int} (hR : w.heap[R]? = some (.cells #[.slice A0 n0 c0, .int .i64 e] 56 (0, 0))) (hl : b.length ≤ c) (hC : Kd.C (Kd.int .u8) w A b.length b) (hT : TB base w A b.length) :
    RS base R (w.setCell ⟨R, 0, none⟩ (.slice A b.length c)) b e := ⟨A, c, cells_set hR rfl, hl, c_set hC hR 0 _, hT.set R 0 _⟩
theorem rs_below {base : Nat} {w w1 : World} {R : Nat} {e : Int} {b : List Int} (h : RS base R w b e) (hb : Below w.heap.size w w1) : RS base R w1 b e := by
  obtain ⟨A, c, hR, hl, hC, hT⟩ := h
  exact ⟨A, c, (hb.block R (lt_of_block hR)).trans hR, hl, Kd.C_below hC hb, hT.below hb⟩
theorem rs_lt {base : Nat} {w : World} {R : Nat} {e : Int} {b : List Int} (h : RS base R w b e) : R < w.heap.size := by
  obtain ⟨A, c, hR, hl, hC⟩ := h
  exact lt_of_block hR
theorem TakeU_calls {b : List Int} {A : Option Addr} {n c : Nat} (w : World) (hby : Bytes b) (hm : b.length ≤ 100000000000000) (hr : Kd.C (Kd.int .u8) w A b.length b) (hn : b.length = n) (hc : n ≤ c) :
    Calls Tryd.prog 35 #[.slice A n c] w fun e w' => ∃ (A1 : Option Addr) (c1 : Nat), e = .returned (.tuple #[.int .i64 (takeU b).1, .slice A1 (takeU b).2.1.length c1, .int .i64 (takeU b).2.2]) ∧ (takeU b).2.1.length ≤ c1 ∧ Kd.C (Kd.int .u8) w' A1 (takeU b).2.1.length (takeU b).2.1 ∧ (∀ base, TB base w' A1 (takeU b).2.1.length) ∧ Below w.heap.size w w' := by
  subst hn
  refine (leb_TakeU.calls 1 A c b (takeU b).1 (takeU b).2.1 (takeU b).2.2 w hr hc (TakeU_f 1 b (by omega) hby (by show _ ≤ 140737488355300; omega))).mono ?_
  rintro e w' ⟨v, rfl, ho, hb⟩
  obtain ⟨A1, c1, rfl, hl, hC⟩ := Kd.R_reads ho
  exact ⟨A1, c1, rfl, hl, hC, fun base => TB.own (v := .nilFunc) ho, hb⟩
set_option maxHeartbeats 4000000 in
set_option maxRecDepth 100000 in
theorem numTakeU_calls {b b1 : List Int} {e n1 e1 : Int} {base R : Nat} {w0 w : World} (hS : RS base R w b e) (hby : Bytes b) (hm : b.length ≤ 100000000000000) (hB : Below base w0 w) (hbr : base ≤ R) (hv : numL takeU b e = (n1, b1, e1)) :
    Calls Tryd.prog 34 #[.pointer (some ⟨R, 0, none⟩), .func (.func 35) #[] #[]] w fun x w' => x = .returned (.int .i64 n1) ∧ RS base R w' b1 e1 ∧ Below base w0 w' ∧ KeepBut w w' R none := by
  have HS := Aside0.mk hS
  have HB := Aside0.mk hB
  have HLT := Aside0.mk (rs_lt hS)
  obtain ⟨A, c, hR, hl, hC, hTB⟩ := hS
  have HR := Aside0.mk hR
  have c0 : w.cell? ⟨R, 0, none⟩ = some (.slice A b.length c) := cell_of_row _ _ 0 _ _ _ hR
  have c1 : w.cell? ⟨R, 1, none⟩ = some (.int .i64 e) := cell_of_row _ _ 1 _ _ _ hR
  have HT := Aside0.mk (TakeU_calls (A := A) (c := c) w hby hm hC rfl hl)
  have HBR := Aside0.mk hbr
  clear hB hl hC hR hby hm hbr hTB
  unfold numL at hv
  by_cases he : e = 0
  · subst he
    rw [if_pos rfl] at hv
    have HV := Aside0.mk hv
    clear hv
    go_enter Tryd.func34, Tryd.ntmps34
    go_wp2_with fail
    refine HT.out.mono ?_
    rw [HV.out]
    rintro x w1 ⟨A1, c1', rfl, hl1, hC1, hT1, hb⟩
    have hR1 := (hb.block R HLT.out).trans HR.out
    have HP := Aside0.mk (rs_both (e' := e1) hR1 hl1 hC1 (hT1 base))
    have HB1 := Aside0.mk (Below.setCell (p := ⟨R, 1, none⟩) (Below.setCell (p := ⟨R, 0, none⟩) (below_then HB.out (Nat.le_of_lt (Nat.lt_of_le_of_lt HBR.out HLT.out)) hb) HBR.out (.slice A1 b1.length c1')) HBR.out (.int .i64 e1))
    have HK := Aside0.mk (KeepBut.set_ (KeepBut.set_ (KeepBut.of_below hb R none) 0 (.slice A1 b1.length c1')) 1 (.int .i64 e1))
    have d0 : w1.cell? ⟨R, 0, none⟩ = some (.slice A b.length c) := cell_of_row _ _ 0 _ _ _ hR1
    have d1 : w1.cell? ⟨R, 1, none⟩ = some (.int .i64 0) := cell_of_row _ _ 1 _ _ _ hR1
    have f0 := free_of_cells hR1 0
    have f1 := free_of_cells hR1 1
    clear hb hC1 hl1 hR1 hT1 HT
    go_wp2
    go_ret
    exact ⟨rfl, HP.out, HB1.out, HK.out⟩
  · rw [if_neg he] at hv
    have q1 : (e != 0) = true := bne_iff_ne.2 he
    injection hv with h1 h2
    injection h2 with h2 h3
    subst h1; subst h2; subst h3
    clear he HT
    go_enter Tryd.func34, Tryd.ntmps34
    go_wp2
    go_ret
    exact ⟨rfl, HS.out, HB.out, KeepBut.refl _ _ _⟩
theorem TakeS_calls {b : List Int} {A : Option Addr} {n c : Nat} (w : World) (hby : Bytes b) (hm : b.length ≤ 100000000000000) (hr : Kd.C (Kd.int .u8) w A b.length b) (hn : b.length = n) (hc : n ≤ c) :
    Calls Tryd.prog 112 #[.slice A n c] w fun e w' => ∃ (A1 : Option Addr) (c1 : Nat), e = .returned (.tuple #[.int .i64 (takeS b).1, .slice A1 (takeS b).2.1.length c1, .int .i64 (takeS b).2.2]) ∧ (takeS b).2.1.length ≤ c1 ∧ Kd.C (Kd.int .u8) w' A1 (takeS b).2.1.length (takeS b).2.1 ∧ (∀ base, TB base w' A1 (takeS b).2.1.length) ∧ Below w.heap.size w w' := by
  subst hn
  refine (leb_TakeS.calls 1 A c b (takeS b).1 (takeS b).2.1 (takeS b).2.2 w hr hc (TakeS_eq b hby (by omega))).mono ?_
  rintro e w' ⟨v, rfl, ho, hb⟩
  obtain ⟨A1, c1, rfl, hl, hC⟩ := Kd.R_reads ho
  exact ⟨A1, c1, rfl, hl, hC, fun base => TB.own (v := .nilFunc) ho, hb⟩
set_option maxHeartbeats 4000000 in
set_option maxRecDepth 100000 in
theorem numTakeS_calls {b b1 : List Int} {e n1 e1 : Int} {base R : Nat} {w0 w : World} (hS : RS base R w b e) (hby : Bytes b) (hm : b.length ≤ 100000000000000) (hB : Below base w0 w) (hbr : base ≤ R) (hv : numL takeS b e = (n1, b1, e1)) :
    Calls Tryd.prog 34 #[.pointer (some ⟨R, 0, none⟩), .func (.func 112) #[] #[]] w fun x w' => x = .returned (.int .i64 n1) ∧ RS base R w' b1 e1 ∧ Below base w0 w' ∧ KeepBut w w' R none := by
  have HS := Aside0.mk hS
  have HB := Aside0.mk hB
  have HLT := Aside0.mk (rs_lt hS)
  obtain ⟨A, c, hR, hl, hC, hTB⟩ := hS
  have HR := Aside0.mk hR
  have c0 : w.cell? ⟨R, 0, none⟩ = some (.slice A b.length c) := cell_of_row _ _ 0 _ _ _ hR
  have c1 : w.cell? ⟨R, 1, none⟩ = some (.int .i64 e) := cell_of_row _ _ 1 _ _ _ hR
  have HT := Aside0.mk (TakeS_calls (A := A) (c := c) w hby hm hC rfl hl)
  have HBR := Aside0.mk hbr
  clear hB hl hC hR hby hm hbr hTB
  unfold numL at hv
  by_cases he : e = 0
  · subst he
    rw [if_pos rfl] at hv
    have HV := Aside0.mk hv
    clear hv
    go_enter Tryd.func34, Tryd.ntmps34
    go_wp2_with fail
    refine HT.out.mono ?_
    rw [HV.out]
    rintro x w1 ⟨A1, c1', rfl, hl1, hC1, hT1, hb⟩
    have hR1 := (hb.block R HLT.out).trans HR.out
    have HP := Aside0.mk (rs_both (e' := e1) hR1 hl1 hC1 (hT1 base))
    have HB1 := Aside0.mk (Below.setCell (p := ⟨R, 1, none⟩) (Below.setCell (p := ⟨R, 0, none⟩) (below_then HB.out (Nat.le_of_lt (Nat.lt_of_le_of_lt HBR.out HLT.out)) hb) HBR.out (.slice A1 b1.length c1')) HBR.out (.int .i64 e1))
    have HK := Aside0.mk (KeepBut.set_ (KeepBut.set_ (KeepBut.of_below hb R none) 0 (.slice A1 b1.length c1')) 1 (.int .i64 e1))
    have d0 : w1.cell? ⟨R, 0, none⟩ = some (.slice A b.length c) := cell_of_row _ _ 0 _ _ _ hR1
    have d1 : w1.cell? ⟨R, 1, none⟩ = some (.int .i64 0) := cell_of_row _ _ 1 _ _ _ hR1
    have f0 := free_of_cells hR1 0
    have f1 := free_of_cells hR1 1
    clear hb hC1 hl1 hR1 hT1 HT
    go_wp2
    go_ret
    exact ⟨rfl, HP.out, HB1.out, HK.out⟩
  · rw [if_neg he] at hv
    have q1 : (e != 0) = true := bne_iff_ne.2 he
    injection hv with h1 h2
    injection h2 with h2 h3
    subst h1; subst h2; subst h3
    clear he HT
    go_enter Tryd.func34, Tryd.ntmps34
    go_wp2
    go_ret
    exact ⟨rfl, HS.out, HB.out, KeepBut.refl _ _ _⟩
theorem bslice_from (l : List Int) (A : Option Addr) (c j : Nat) (hj : j ≤ l.length) (hc : l.length ≤ c) :
    ∃ A' : Option Addr, (∀ W : World, (Instr.slice 22 (.slice A l.length c) (some (.int .i64 (j : Int))) none none).run Tryd.prog W = .ok (.slice A' (l.length - j) (c - j)) W) ∧
      (∀ w : World, Kd.C (Kd.int .u8) w A l.length l → Kd.C (Kd.int .u8) w A' (l.drop j).length (l.drop j)) ∧ (∀ ad', A' = some ad' → ∃ ad, A = some ad ∧ ad'.block = ad.block) := by
  obtain ⟨i0, hi0, hz0, hz1, hz2⟩ := info_parts infoB
  have h := cut_from (P := Tryd.prog) 22 5 .i64 Tryd.underlying22 hi0 1 hz1 A l.length c (j : Int) (by omega) (by omega)
  rw [Int.toNat_natCast] at h
  refine ⟨_, h, fun w hC => Kd.C_drop hC hj hc, fun ad' h' => ?_⟩
  split at h'
  · exact ⟨ad', h', rfl⟩
  · obtain ⟨ad, hA, rfl⟩ := Option.map_eq_some_iff.1 h'
    refine ⟨ad, hA, ?_⟩
    unfold Addr.add
    split <;> rfl
theorem c_nil (w : World) : Kd.C (Kd.int .u8) w none 0 [] := ⟨rfl, by omega, fun h => absurd h (by omega)⟩
set_option maxHeartbeats 4000000 in
set_option maxRecDepth 100000 in
theorem bytes_calls {b b0 b1 : List Int} {e n e1 : Int} {base R : Nat} {w0 w : World} (hS : RS base R w b e) (hm : b.length ≤ 100000000000000) (hn : 0 ≤ n) (hB : Below base w0 w) (hbr : base ≤ R) (hv : bytesN n b e = (b0, b1, e1)) :
    Calls Tryd.prog 57 #[.pointer (some ⟨R, 0, none⟩), .int .i64 n] w fun x w' => ∃ (A : Option Addr) (c : Nat), x = .returned (.slice A b0.length c) ∧ b0.length ≤ c ∧ Kd.C (Kd.int .u8) w' A b0.length b0 ∧ RS base R w' b1 e1 ∧ Below base w0 w' ∧ KeepBut w w' R none := by
  obtain ⟨k, rfl⟩ : ∃ k : Nat, n = (k : Int) := ⟨n.toNat, by omega⟩
  have HS := Aside0.mk hS
  have HB := Aside0.mk hB
  obtain ⟨A, c, hR, hl, hC, hTB⟩ := hS
  have HR := Aside0.mk hR
  have c0 : w.cell? ⟨R, 0, none⟩ = some (.slice A b.length c) := cell_of_row _ _ 0 _ _ _ hR
  have c1 : w.cell? ⟨R, 1, none⟩ = some (.int .i64 e) := cell_of_row _ _ 1 _ _ _ hR
  have f0 := free_of_cells hR 0
  have f1 := free_of_cells hR 1
  have HBR := Aside0.mk hbr
  have HL := Aside0.mk hl
  have HC := Aside0.mk hC
  have HM := Aside0.mk hm
  have HTB := Aside0.mk hTB
  clear hB hl hC hR hbr hn hm hTB
  unfold bytesN at hv
  by_cases he : e = 0
  · subst he
    rw [if_pos rfl] at hv
    by_cases hk : (b.length : Int) < (k : Int)
    · rw [if_pos hk] at hv
      injection hv with h1 h2
      injection h2 with h2 h3
      subst h1; subst h2; subst h3
      have q1 : b.length < k := by omega
      have HP := Aside0.mk (rs_err HS.out 3)
      have HB1 := Aside0.mk (Below.setCell (p := ⟨R, 1, none⟩) HB.out HBR.out (.int .i64 3))
      have HK := Aside0.mk (KeepBut.set_ (KeepBut.refl w R none) 1 (.int .i64 3))
      clear hk
      go_enter Tryd.func57, Tryd.ntmps57
      go_wp2
      go_ret
      exact ⟨none, 0, rfl, Nat.le_refl _, c_nil _, HP.out, HB1.out, HK.out⟩
    · rw [if_neg hk, Int.toNat_natCast] at hv
      injection hv with h1 h2
      injection h2 with h2 h3
      subst h1; subst h2; subst h3
      have hkb : k ≤ b.length := by omega
      have q1 : ¬ b.length < k := by omega
      obtain ⟨A', s1, s2, s4⟩ := bslice_from b A c k hkb HL.out
      have s3 := slice_to b A c k hkb HL.out
      have hrow := rs_row HR.out (by rw [List.length_drop]; have := HL.out; omega : (b.drop k).length ≤ c - k) (s2 w HC.out) (TB.cut HTB.out (by rw [List.length_drop]; omega) s4)
      rw [List.length_drop] at hrow
      have HP := Aside0.mk hrow
      have HB1 := Aside0.mk (Below.setCell (p := ⟨R, 0, none⟩) HB.out HBR.out (.slice A' (b.length - k) (c - k)))
      have HK := Aside0.mk (KeepBut.set_ (KeepBut.refl w R none) 0 (.slice A' (b.length - k) (c - k)))
      have HT := Aside0.mk (c_set (Kd.C_take HC.out hkb) HR.out 0 (.slice A' (b.length - k) (c - k)))
      have HKB := Aside0.mk hkb
      clear hk s2 s4 hrow hkb
      go_enter Tryd.func57, Tryd.ntmps57
      go_wp2
      go_ret
      refine ⟨A, c, ?_, ?_, HT.out, HP.out, HB1.out, HK.out⟩
      · rw [List.length_take, Nat.min_eq_left HKB.out]; rfl
      · rw [List.length_take]; have := HL.out; have := HKB.out; omega
  · rw [if_neg he] at hv
    injection hv with h1 h2
    injection h2 with h2 h3
    subst h1; subst h2; subst h3
    have q1 : (e == 0) = false := beq_eq_false_iff_ne.2 he
    have q2 : (e != 0) = true := bne_iff_ne.2 he
    clear he
    go_enter Tryd.func57, Tryd.ntmps57
    go_wp2
    go_ret
    exact ⟨none, 0, rfl, Nat.le_refl _, c_nil _, HS.out, HB.out, KeepBut.refl _ _ _⟩
end Go.Proofs.YtkhigagkgpfpfaaDoor.Ext

/- The reader of package pool, walked: a number, so many bytes, a text, a class, what refers. -/
import Derived.Test.YtkhigagkgpfpfaaDoorPoolSpec
import Derived.Laws.EntriesVeiled
import Derived.Deep.RegionWith
set_option linter.unusedVariables false
set_option linter.unusedSimpArgs false
namespace Go.Proofs.YtkhigagkgpfpfaaDoor.Ext
open Go.RowKit Go.Lib Go.Proofs.YtkhigagkgpfpfaaDoorW.PrintWords Go.Proofs.YtkhigagkgpfpfaaDoorW.PrintLast Go.Proofs.YtkhigagkgpfpfaaDoorW.PrintMore Go.Proofs.YtkhigagkgpfpfaaDoor.PLeb
attribute [local go_sem] max2_int min2_int max_two min_two max_three min_three max_four min_four

theorem cells_set {w : World} {R j : Nat} {C C' : Array Value} {t : TypeId} {fz : Nat × Nat} {u : Value} (h : w.heap[R]? = some (.cells C t fz)) (e : C.setIfInBounds j u = C') : (w.setCell ⟨R, j, none⟩ u).heap[R]? = some (.cells C' t fz) := by
  subst e
  show (w.heap.modify R _)[R]? = _
  rw [Array.getElem?_modify, if_pos rfl, h]; rfl
theorem free_of_cells {w : World} {R : Nat} {C : Array Value} {t : TypeId} (h : w.heap[R]? = some (.cells C t (0, 0))) (j : Nat) : w.frozen? ⟨R, j, none⟩ = false := by simp [World.frozen?, h]
/-- a row that lies below a number, or in a block of bytes -/
def TB (base : Nat) (w : World) (A : Option Addr) (n : Nat) : Prop := ∀ ad, A = some ad → 0 < n → ad.block < base ∨ ∃ cs, w.heap[ad.block]? = some (.cells cs 5 (0, 0))
theorem TB.below {base : Nat} {w w1 : World} {A : Option Addr} {n : Nat} (h : TB base w A n) (hb : Below w.heap.size w w1) : TB base w1 A n := by
  intro ad hA hn
  rcases h ad hA hn with h | ⟨cs, h⟩
  · exact .inl h
  · exact .inr ⟨cs, (hb.block _ (lt_of_block h)).trans h⟩
theorem TB.set {base : Nat} {w : World} {A : Option Addr} {n : Nat} (h : TB base w A n) (R j : Nat) (u : Value) : TB base (w.setCell ⟨R, j, none⟩ u) A n := by
  intro ad hA hn
  rcases h ad hA hn with h | ⟨cs, h⟩
  · exact .inl h
  · by_cases hR : ad.block = R
    · rw [hR] at h ⊢; exact .inr ⟨_, cells_set h rfl⟩
    · exact .inr ⟨cs, (Below.heap_setCell w ⟨R, j, none⟩ u _ hR).trans h⟩
theorem TB.keep {base : Nat} {w w1 : World} {A : Option Addr} {n C : Nat} {cs0 : Array Value} {t : TypeId} (h : TB base w A n) (hC : w.heap[C]? = some (.cells cs0 t (0, 0))) (ht : t ≠ 5) (hk : KeepBut w w1 C none) : TB base w1 A n := by
  intro ad hA hn
  rcases h ad hA hn with h | ⟨cs, h⟩
  · exact .inl h
  · refine .inr ⟨cs, (hk.2 _ (lt_of_block h) (fun e => ?_) (by simp)).trans h⟩
    rw [e, hC] at h
    injection h with h
    injection h with _ h _
    exact ht h
theorem TB.cut {base : Nat} {w : World} {A A' : Option Addr} {n n' : Nat} (h : TB base w A n) (hn : n' ≤ n) (hA : ∀ ad', A' = some ad' → ∃ ad, A = some ad ∧ ad'.block = ad.block) : TB base w A' n' := by
  intro ad' hA' hn'
  obtain ⟨ad, hA, e⟩ := hA ad' hA'
  rw [e]
  exact h ad hA (by omega)
theorem TB.own {base : Nat} {w : World} {v : Value} {A : Option Addr} {n c : Nat} {b : List Int} {m : Nat} {ok : Nat → Prop} (h : Kd.R (Kd.int .u8) 5 w m ok (.slice A n c) b) : TB base w A n := by
  intro ad hA hn
  obtain ⟨inner, ho⟩ := Kd.R_own h
  subst hA
  exact .inr (own_typed ho ad.block rfl)
/-- the reader's block: what is left, and the first error -/
def RS (base R : Nat) (w : World) (b : List Int) (e : Int) : Prop :=
  ∃ (A : Option Addr) (c : Nat), w.heap[R]? = some (.cells #[.slice A b.length c, .int .i64 e] 56 (0, 0)) ∧ b.length ≤ c ∧ Kd.C (Kd.int .u8) w A b.length b ∧ TB base w A b.length
/-- A row of bytes lies in none of a block of a slice and an error. -/
theorem c_ne {w : World} {A : Option Addr} {n R n0 c0 : Nat} {b : List Int} {A0 : Option Addr} {e : Int} {t : TypeId} (h : Kd.C (Kd.int .u8) w A n b) (hR : w.heap[R]? = some (.cells #[.slice A0 n0 c0, .int .i64 e] t (0, 0))) : ∀ ad, A = some ad → 0 < n → ad.block ≠ R := by
  intro ad hA hn hb
  obtain ⟨ad', c, e1, hl, hk, hc⟩ := Kd.C_get h 0 0 (by omega) (by omega)
  have hk' : c = [.int .u8 (b.getD (0 : Int).toNat 0)] := hk
  subst hk'
  rw [hA] at e1
  injection e1 with e1
  subst e1
  have h0 : w.cell? ad = some (.int .u8 (b.getD (0 : Int).toNat 0)) := hc 0 _ rfl
  unfold World.cell? at h0
  rw [hb, hR] at h0
  simp only at h0
  split at h0
  · cases h0
  · generalize ad.off = o at h0
    match o, h0 with
    | 0, h0 => simp at h0
    | 1, h0 => simp at h0
    | o + 2, h0 => simp at h0
theorem c_set {w : World} {A : Option Addr} {n R n0 c0 : Nat} {b : List Int} {A0 : Option Addr} {e : Int} {t : TypeId} (h : Kd.C (Kd.int .u8) w A n b) (hR : w.heap[R]? = some (.cells #[.slice A0 n0 c0, .int .i64 e] t (0, 0))) (j : Nat) (u : Value) : Kd.C (Kd.int .u8) (w.setCell ⟨R, j, none⟩ u) A n b :=
  Kd.C_keep 0 h (KeepBut.set_ (KeepBut.refl w R none) j u) (c_ne h hR)
theorem rs_both {base : Nat} {w : World} {R n0 c0 c : Nat} {A0 A : Option Addr} {e e' : Int} {b : List Int} (hR : w.heap[R]? = some (.cells #[.slice A0 n0 c0, .int .i64 e] 56 (0, 0))) (hl : b.length ≤ c) (hC : Kd.C (Kd.int .u8) w A b.length b) (hT : TB base w A b.length) :
    RS base R ((w.setCell ⟨R, 0, none⟩ (.slice A b.length c)).setCell ⟨R, 1, none⟩ (.int .i64 e')) b e' := by
  have h1 : (w.setCell ⟨R, 0, none⟩ (.slice A b.length c)).heap[R]? = some (.cells #[.slice A b.length c, .int .i64 e] 56 (0, 0)) := cells_set hR rfl
  exact ⟨A, c, cells_set h1 rfl, hl, c_set (c_set hC hR 0 _) h1 1 _, (hT.set R 0 _).set R 1 _⟩
theorem rs_err {base : Nat} {w : World} {R : Nat} {e : Int} {b : List Int} (h : RS base R w b e) (e' : Int) : RS base R (w.setCell ⟨R, 1, none⟩ (.int .i64 e')) b e' := by
  obtain ⟨A, c, hR, hl, hC, hT⟩ := h
  exact ⟨A, c, cells_set hR rfl, hl, c_set hC hR 1 _, hT.set R 1 _⟩
theorem rs_row {base : Nat} {w : World} {R n0 c0 c : Nat} {A0 A : Option Addr} {e : Int} {b : List Int} (hR : w.heap[R]? = some (.cells #[.slice A0 n0 c0, .int .i64 e] 56 (0, 0))) (hl : b.length ≤ c) (hC : Kd.C (Kd.int .u8) w A b.length b) (hT : TB base w A b.length) :
    RS base R (w.setCell ⟨R, 0, none⟩ (.slice A b.length c)) b e := ⟨A, c, cells_set hR rfl, hl, c_set hC hR 0 _, hT.set R 0 _⟩
theorem rs_below {base : Nat} {w w1 : World} {R : Nat} {e : Int} {b : List Int} (h : RS base R w b e) (hb : Below w.heap.size w w1) : RS base R w1 b e := by
  obtain ⟨A, c, hR, hl, hC, hT⟩ := h
  exact ⟨A, c, (hb.block R (lt_of_block hR)).trans hR, hl, Kd.C_below hC hb, hT.below hb⟩
theorem rs_lt {base : Nat} {w : World} {R : Nat} {e : Int} {b : List Int} (h : RS base R w b e) : R < w.heap.size := by
  obtain ⟨A, c, hR, hl, hC⟩ := h
  exact lt_of_block hR
theorem TakeU_calls {b : List Int} {A : Option Addr} {n c : Nat} (w : World) (hby : Bytes b) (hm : b.length ≤ 100000000000000) (hr : Kd.C (Kd.int .u8) w A b.length b) (hn : b.length = n) (hc : n ≤ c) :
    Calls Tryd.prog 35 #[.slice A n c] w fun e w' => ∃ (A1 : Option Addr) (c1 : Nat), e = .returned (.tuple #[.int .i64 (takeU b).1, .slice A1 (takeU b).2.1.length c1, .int .i64 (takeU b).2.2]) ∧ (takeU b).2.1.length ≤ c1 ∧ Kd.C (Kd.int .u8) w' A1 (takeU b).2.1.length (takeU b).2.1 ∧ (∀ base, TB base w' A1 (takeU b).2.1.length) ∧ Below w.heap.size w w' := by
  subst hn
  refine (leb_TakeU.calls 1 A c b (takeU b).1 (takeU b).2.1 (takeU b).2.2 w hr hc (TakeU_f 1 b (by omega) hby (by show _ ≤ 140737488355300; omega))).mono ?_
  rintro e w' ⟨v, rfl, ho, hb⟩
  obtain ⟨A1, c1, rfl, hl, hC⟩ := Kd.R_reads ho
  exact ⟨A1, c1, rfl, hl, hC, fun base => TB.own (v := .nilFunc) ho, hb⟩
set_option maxHeartbeats 4000000 in
set_option maxRecDepth 100000 in
theorem numTakeU_calls {b b1 : List Int} {e n1 e1 : Int} {base R : Nat} {w0 w : World} (hS : RS base R w b e) (hby : Bytes b) (hm : b.length ≤ 100000000000000) (hB : Below base w0 w) (hbr : base ≤ R) (hv : numL takeU b e = (n1, b1, e1)) :
    Calls Tryd.prog 34 #[.pointer (some ⟨R, 0, none⟩), .func (.func 35) #[] #[]] w fun x w' => x = .returned (.int .i64 n1) ∧ RS base R w' b1 e1 ∧ Below base w0 w' ∧ KeepBut w w' R none := by
  have HS := Aside0.mk hS
  have HB := Aside0.mk hB
  have HLT := Aside0.mk (rs_lt hS)
  obtain ⟨A, c, hR, hl, hC, hTB⟩ := hS
  have HR := Aside0.mk hR
  have c0 : w.cell? ⟨R, 0, none⟩ = some (.slice A b.length c) := cell_of_row _ _ 0 _ _ _ hR
  have c1 : w.cell? ⟨R, 1, none⟩ = some (.int .i64 e) := cell_of_row _ _ 1 _ _ _ hR
  have HT := Aside0.mk (TakeU_calls (A := A) (c := c) w hby hm hC rfl hl)
  have HBR := Aside0.mk hbr
  clear hB hl hC hR hby hm hbr hTB
  unfold numL at hv
  by_cases he : e = 0
  · subst he
    rw [if_pos rfl] at hv
    have HV := Aside0.mk hv
    clear hv
    go_enter Tryd.func34, Tryd.ntmps34
    go_wp2_with fail
    refine HT.out.mono ?_
    rw [HV.out]
    rintro x w1 ⟨A1, c1', rfl, hl1, hC1, hT1, hb⟩
    have hR1 := (hb.block R HLT.out).trans HR.out
    have HP := Aside0.mk (rs_both (e' := e1) hR1 hl1 hC1 (hT1 base))
    have HB1 := Aside0.mk (Below.setCell (p := ⟨R, 1, none⟩) (Below.setCell (p := ⟨R, 0, none⟩) (below_then HB.out (Nat.le_of_lt (Nat.lt_of_le_of_lt HBR.out HLT.out)) hb) HBR.out (.slice A1 b1.length c1')) HBR.out (.int .i64 e1))
    have HK := Aside0.mk (KeepBut.set_ (KeepBut.set_ (KeepBut.of_below hb R none) 0 (.slice A1 b1.length c1')) 1 (.int .i64 e1))
    have d0 : w1.cell? ⟨R, 0, none⟩ = some (.slice A b.length c) := cell_of_row _ _ 0 _ _ _ hR1
    have d1 : w1.cell? ⟨R, 1, none⟩ = some (.int .i64 0) := cell_of_row _ _ 1 _ _ _ hR1
    have f0 := free_of_cells hR1 0
    have f1 := free_of_cells hR1 1
    clear hb hC1 hl1 hR1 hT1 HT
    go_wp2
    go_ret
    exact ⟨rfl, HP.out, HB1.out, HK.out⟩
  · rw [if_neg he] at hv
    have q1 : (e != 0) = true := bne_iff_ne.2 he
    injection hv with h1 h2
    injection h2 with h2 h3
    subst h1; subst h2; subst h3
    clear he HT
    go_enter Tryd.func34, Tryd.ntmps34
    go_wp2
    go_ret
    exact ⟨rfl, HS.out, HB.out, KeepBut.refl _ _ _⟩
theorem TakeS_calls {b : List Int} {A : Option Addr} {n c : Nat} (w : World) (hby : Bytes b) (hm : b.length ≤ 100000000000000) (hr : Kd.C (Kd.int .u8) w A b.length b) (hn : b.length = n) (hc : n ≤ c) :
    Calls Tryd.prog 112 #[.slice A n c] w fun e w' => ∃ (A1 : Option Addr) (c1 : Nat), e = .returned (.tuple #[.int .i64 (takeS b).1, .slice A1 (takeS b).2.1.length c1, .int .i64 (takeS b).2.2]) ∧ (takeS b).2.1.length ≤ c1 ∧ Kd.C (Kd.int .u8) w' A1 (takeS b).2.1.length (takeS b).2.1 ∧ (∀ base, TB base w' A1 (takeS b).2.1.length) ∧ Below w.heap.size w w' := by
  subst hn
  refine (leb_TakeS.calls 1 A c b (takeS b).1 (takeS b).2.1 (takeS b).2.2 w hr hc (TakeS_eq b hby (by omega))).mono ?_
  rintro e w' ⟨v, rfl, ho, hb⟩
  obtain ⟨A1, c1, rfl, hl, hC⟩ := Kd.R_reads ho
  exact ⟨A1, c1, rfl, hl, hC, fun base => TB.own (v := .nilFunc) ho, hb⟩
set_option maxHeartbeats 4000000 in
set_option maxRecDepth 100000 in
theorem numTakeS_calls {b b1 : List Int} {e n1 e1 : Int} {base R : Nat} {w0 w : World} (hS : RS base R w b e) (hby : Bytes b) (hm : b.length ≤ 100000000000000) (hB : Below base w0 w) (hbr : base ≤ R) (hv : numL takeS b e = (n1, b1, e1)) :
    Calls Tryd.prog 34 #[.pointer (some ⟨R, 0, none⟩), .func (.func 112) #[] #[]] w fun x w' => x = .returned (.int .i64 n1) ∧ RS base R w' b1 e1 ∧ Below base w0 w' ∧ KeepBut w w' R none := by
  have HS := Aside0.mk hS
  have HB := Aside0.mk hB
  have HLT := Aside0.mk (rs_lt hS)
  obtain ⟨A, c, hR, hl, hC, hTB⟩ := hS
  have HR := Aside0.mk hR
  have c0 : w.cell? ⟨R, 0, none⟩ = some (.slice A b.length c) := cell_of_row _ _ 0 _ _ _ hR
  have c1 : w.cell? ⟨R, 1, none⟩ = some (.int .i64 e) := cell_of_row _ _ 1 _ _ _ hR
  have HT := Aside0.mk (TakeS_calls (A := A) (c := c) w hby hm hC rfl hl)
  have HBR := Aside0.mk hbr
  clear hB hl hC hR hby hm hbr hTB
  unfold numL at hv
  by_cases he : e = 0
  · subst he
    rw [if_pos rfl] at hv
    have HV := Aside0.mk hv
    clear hv
    go_enter Tryd.func34, Tryd.ntmps34
    go_wp2_with fail
    refine HT.out.mono ?_
    rw [HV.out]
    rintro x w1 ⟨A1, c1', rfl, hl1, hC1, hT1, hb⟩
    have hR1 := (hb.block R HLT.out).trans HR.out
    have HP := Aside0.mk (rs_both (e' := e1) hR1 hl1 hC1 (hT1 base))
    have HB1 := Aside0.mk (Below.setCell (p := ⟨R, 1, none⟩) (Below.setCell (p := ⟨R, 0, none⟩) (below_then HB.out (Nat.le_of_lt (Nat.lt_of_le_of_lt HBR.out HLT.out)) hb) HBR.out (.slice A1 b1.length c1')) HBR.out (.int .i64 e1))
    have HK := Aside0.mk (KeepBut.set_ (KeepBut.set_ (KeepBut.of_below hb R none) 0 (.slice A1 b1.length c1')) 1 (.int .i64 e1))
    have d0 : w1.cell? ⟨R, 0, none⟩ = some (.slice A b.length c) := cell_of_row _ _ 0 _ _ _ hR1
    have d1 : w1.cell? ⟨R, 1, none⟩ = some (.int .i64 0) := cell_of_row _ _ 1 _ _ _ hR1
    have f0 := free_of_cells hR1 0
    have f1 := free_of_cells hR1 1
    clear hb hC1 hl1 hR1 hT1 HT
    go_wp2
    go_ret
    exact ⟨rfl, HP.out, HB1.out, HK.out⟩
  · rw [if_neg he] at hv
    have q1 : (e != 0) = true := bne_iff_ne.2 he
    injection hv with h1 h2
    injection h2 with h2 h3
    subst h1; subst h2; subst h3
    clear he HT
    go_enter Tryd.func34, Tryd.ntmps34
    go_wp2
    go_ret
    exact ⟨rfl, HS.out, HB.out, KeepBut.refl _ _ _⟩
theorem bslice_from (l : List Int) (A : Option Addr) (c j : Nat) (hj : j ≤ l.length) (hc : l.length ≤ c) :
    ∃ A' : Option Addr, (∀ W : World, (Instr.slice 22 (.slice A l.length c) (some (.int .i64 (j : Int))) none none).run Tryd.prog W = .ok (.slice A' (l.length - j) (c - j)) W) ∧
      (∀ w : World, Kd.C (Kd.int .u8) w A l.length l → Kd.C (Kd.int .u8) w A' (l.drop j).length (l.drop j)) ∧ (∀ ad', A' = some ad' → ∃ ad, A = some ad ∧ ad'.block = ad.block) := by
  obtain ⟨i0, hi0, hz0, hz1, hz2⟩ := info_parts infoB
  have h := cut_from (P := Tryd.prog) 22 5 .i64 Tryd.underlying22 hi0 1 hz1 A l.length c (j : Int) (by omega) (by omega)
  rw [Int.toNat_natCast] at h
  refine ⟨_, h, fun w hC => Kd.C_drop hC hj hc, fun ad' h' => ?_⟩
  split at h'
  · exact ⟨ad', h', rfl⟩
  · obtain ⟨ad, hA, rfl⟩ := Option.map_eq_some_iff.1 h'
    refine ⟨ad, hA, ?_⟩
    unfold Addr.add
    split <;> rfl
theorem c_nil (w : World) : Kd.C (Kd.int .u8) w none 0 [] := ⟨rfl, by omega, fun h => absurd h (by omega)⟩
set_option maxHeartbeats 4000000 in
set_option maxRecDepth 100000 in
theorem bytes_calls {b b0 b1 : List Int} {e n e1 : Int} {base R : Nat} {w0 w : World} (hS : RS base R w b e) (hm : b.length ≤ 100000000000000) (hn : 0 ≤ n) (hB : Below base w0 w) (hbr : base ≤ R) (hv : bytesN n b e = (b0, b1, e1)) :
    Calls Tryd.prog 57 #[.pointer (some ⟨R, 0, none⟩), .int .i64 n] w fun x w' => ∃ (A : Option Addr) (c : Nat), x = .returned (.slice A b0.length c) ∧ b0.length ≤ c ∧ Kd.C (Kd.int .u8) w' A b0.length b0 ∧ RS base R w' b1 e1 ∧ Below base w0 w' ∧ KeepBut w w' R none := by
  obtain ⟨k, rfl⟩ : ∃ k : Nat, n = (k : Int) := ⟨n.toNat, by omega⟩
  have HS := Aside0.mk hS
  have HB := Aside0.mk hB
  obtain ⟨A, c, hR, hl, hC, hTB⟩ := hS
  have HR := Aside0.mk hR
  have c0 : w.cell? ⟨R, 0, none⟩ = some (.slice A b.length c) := cell_of_row _ _ 0 _ _ _ hR
  have c1 : w.cell? ⟨R, 1, none⟩ = some (.int .i64 e) := cell_of_row _ _ 1 _ _ _ hR
  have f0 := free_of_cells hR 0
  have f1 := free_of_cells hR 1
  have HBR := Aside0.mk hbr
  have HL := Aside0.mk hl
  have HC := Aside0.mk hC
  have HM := Aside0.mk hm
  have HTB := Aside0.mk hTB
  clear hB hl hC hR hbr hn hm hTB
  unfold bytesN at hv
  by_cases he : e = 0
  · subst he
    rw [if_pos rfl] at hv
    by_cases hk : (b.length : Int) < (k : Int)
    · rw [if_pos hk] at hv
      injection hv with h1 h2
      injection h2 with h2 h3
      subst h1; subst h2; subst h3
      have q1 : b.length < k := by omega
      have HP := Aside0.mk (rs_err HS.out 3)
      have HB1 := Aside0.mk (Below.setCell (p := ⟨R, 1, none⟩) HB.out HBR.out (.int .i64 3))
      have HK := Aside0.mk (KeepBut.set_ (KeepBut.refl w R none) 1 (.int .i64 3))
      clear hk
      go_enter Tryd.func57, Tryd.ntmps57
      go_wp2
      go_ret
      exact ⟨none, 0, rfl, Nat.le_refl _, c_nil _, HP.out, HB1.out, HK.out⟩
    · rw [if_neg hk, Int.toNat_natCast] at hv
      injection hv with h1 h2
      injection h2 with h2 h3
      subst h1; subst h2; subst h3
      have hkb : k ≤ b.length := by omega
      have q1 : ¬ b.length < k := by omega
      obtain ⟨A', s1, s2, s4⟩ := bslice_from b A c k hkb HL.out
      have s3 := slice_to b A c k hkb HL.out
      have hrow := rs_row HR.out (by rw [List.length_drop]; have := HL.out; omega : (b.drop k).length ≤ c - k) (s2 w HC.out) (TB.cut HTB.out (by rw [List.length_drop]; omega) s4)
      rw [List.length_drop] at hrow
      have HP := Aside0.mk hrow
      have HB1 := Aside0.mk (Below.setCell (p := ⟨R, 0, none⟩) HB.out HBR.out (.slice A' (b.length - k) (c - k)))
      have HK := Aside0.mk (KeepBut.set_ (KeepBut.refl w R none) 0 (.slice A' (b.length - k) (c - k)))
      have HT := Aside0.mk (c_set (Kd.C_take HC.out hkb) HR.out 0 (.slice A' (b.length - k) (c - k)))
      have HKB := Aside0.mk hkb
      clear hk s2 s4 hrow hkb
      go_enter Tryd.func57, Tryd.ntmps57
      go_wp2
      go_ret
      refine ⟨A, c, ?_, ?_, HT.out, HP.out, HB1.out, HK.out⟩
      · rw [List.length_take, Nat.min_eq_left HKB.out]; rfl
      · rw [List.length_take]; have := HL.out; have := HKB.out; omega
  · rw [if_neg he] at hv
    injection hv with h1 h2
    injection h2 with h2 h3
    subst h1; subst h2; subst h3
    have q1 : (e == 0) = false := beq_eq_false_iff_ne.2 he
    have q2 : (e != 0) = true := bne_iff_ne.2 he
    clear he
    go_enter Tryd.func57, Tryd.ntmps57
    go_wp2
    go_ret
    exact ⟨none, 0, rfl, Nat.le_refl _, c_nil _, HS.out, HB.out, KeepBut.refl _ _ _⟩
end Go.Proofs.YtkhigagkgpfpfaaDoor.Ext
namespace Go.Proofs.YtkhigagkgpfpfaaDoor.Ext
open Go.RowKit Go.Lib Go.Proofs.YtkhigagkgpfpfaaDoorW.PrintWords Go.Proofs.YtkhigagkgpfpfaaDoorW.PrintLast Go.Proofs.YtkhigagkgpfpfaaDoorW.PrintMore Go.Proofs.YtkhigagkgpfpfaaDoor.PLeb
attribute [local go_sem] max2_int min2_int max_two min_two max_three min_three max_four min_four

/-- a constant's block -/
def CS (C : Nat) (w : World) (x : S35) : Prop :=
  w.heap[C]? = some (.cells #[.int .i64 x.f0, .string x.f1, .int .i64 x.f2, .int .i64 x.f3, .int .i64 x.f4, .int .i64 x.f5] 35 (0, 0))
theorem cs_below {w w1 : World} {C : Nat} {x : S35} (h : CS C w x) (hb : Below w.heap.size w w1) : CS C w1 x := (hb.block C (lt_of_block h)).trans h
theorem cs_keep {w w1 : World} {R C : Nat} {x : S35} (h : CS C w x) (hk : KeepBut w w1 R none) (hne : C ≠ R) : CS C w1 x := (hk.2 C (lt_of_block h) hne (by simp)).trans h
theorem cs_set1 {w : World} {C : Nat} {k n a b d : Int} {s : ByteArray} (h : CS C w ⟨k, s, n, a, b, d⟩) (u : ByteArray) : CS C (w.setCell ⟨C, 1, none⟩ (.string u)) ⟨k, u, n, a, b, d⟩ := cells_set h rfl
theorem cs_set2 {w : World} {C : Nat} {k n a b d : Int} {s : ByteArray} (h : CS C w ⟨k, s, n, a, b, d⟩) (u : Int) : CS C (w.setCell ⟨C, 2, none⟩ (.int .i64 u)) ⟨k, s, u, a, b, d⟩ := cells_set h rfl
theorem cs_set3 {w : World} {C : Nat} {k n a b d : Int} {s : ByteArray} (h : CS C w ⟨k, s, n, a, b, d⟩) (u : Int) : CS C (w.setCell ⟨C, 3, none⟩ (.int .i64 u)) ⟨k, s, n, u, b, d⟩ := cells_set h rfl
theorem cs_set4 {w : World} {C : Nat} {k n a b d : Int} {s : ByteArray} (h : CS C w ⟨k, s, n, a, b, d⟩) (u : Int) : CS C (w.setCell ⟨C, 4, none⟩ (.int .i64 u)) ⟨k, s, n, a, u, d⟩ := cells_set h rfl
theorem cs_set5 {w : World} {C : Nat} {k n a b d : Int} {s : ByteArray} (h : CS C w ⟨k, s, n, a, b, d⟩) (u : Int) : CS C (w.setCell ⟨C, 5, none⟩ (.int .i64 u)) ⟨k, s, n, a, b, u⟩ := cells_set h rfl
theorem cs_far {w : World} {C R : Nat} {x : S35} (h : CS C w x) (hne : C ≠ R) (j : Nat) (u : Value) : CS C (w.setCell ⟨R, j, none⟩ u) x := (Below.heap_setCell w ⟨R, j, none⟩ u C hne).trans h
/-- A row of bytes lies in no block of a constant. -/
theorem c_neC {w : World} {A : Option Addr} {n C : Nat} {b : List Int} {x : S35} (h : Kd.C (Kd.int .u8) w A n b) (hC : CS C w x) : ∀ ad, A = some ad → 0 < n → ad.block ≠ C := by
  intro ad hA hn hb
  obtain ⟨ad', c, e1, hl, hk, hc⟩ := Kd.C_get h 0 0 (by omega) (by omega)
  have hk' : c = [.int .u8 (b.getD (0 : Int).toNat 0)] := hk
  subst hk'
  rw [hA] at e1
  injection e1 with e1
  subst e1
  have h0 : w.cell? ad = some (.int .u8 (b.getD (0 : Int).toNat 0)) := hc 0 _ rfl
  unfold CS at hC
  unfold World.cell? at h0
  rw [hb, hC] at h0
  simp only at h0
  split at h0
  · cases h0
  · generalize ad.off = o at h0
    match o, h0 with
    | 0, h0 => simp at h0
    | 1, h0 => simp at h0
    | 2, h0 => simp at h0
    | 3, h0 => simp at h0
    | 4, h0 => simp at h0
    | 5, h0 => simp at h0
    | o + 6, h0 => simp at h0
theorem rs_far {base : Nat} {w : World} {R C : Nat} {b : List Int} {e : Int} {x : S35} (h : RS base R w b e) (hC : CS C w x) (hne : C ≠ R) (j : Nat) (u : Value) : RS base R (w.setCell ⟨C, j, none⟩ u) b e := by
  obtain ⟨A, c, hR, hl, hr, hT⟩ := h
  exact ⟨A, c, (Below.heap_setCell w ⟨C, j, none⟩ u R (fun h => hne h.symm)).trans hR, hl, Kd.C_keep 0 hr (KeepBut.set_ (KeepBut.refl w C none) j u) (c_neC hr hC), hT.set C j u⟩
theorem keep_weak {w w1 : World} {R : Nat} (h : KeepBut w w1 R none) (C : Nat) : KeepBut w w1 R (some C) := ⟨h.1, fun i hi hg _ => h.2 i hi hg (by simp)⟩
theorem keep_setC {w w1 : World} {R C : Nat} (h : KeepBut w w1 R (some C)) (j : Nat) (u : Value) : KeepBut w (w1.setCell ⟨C, j, none⟩ u) R (some C) :=
  ⟨by simpa [World.setCell] using h.1, fun i hi hg hr => (Below.heap_setCell w1 ⟨C, j, none⟩ u i (fun e => hr (congrArg some e))).trans (h.2 i hi hg hr)⟩
theorem keep_trans {w w1 w2 : World} {R C : Nat} (h : KeepBut w w1 R (some C)) (k : KeepBut w1 w2 R (some C)) : KeepBut w w2 R (some C) := h.trans k (Or.inl rfl)
/-- what a reading leaves -/
def ReadPost (base R C : Nat) (w0 w : World) (x : S35) (b : List Int) (e : Int) (y : Ending) (w' : World) : Prop :=
  y = .returned (.tuple #[]) ∧ RS base R w' b e ∧ CS C w' x ∧ Below base w0 w' ∧ KeepBut w w' R (some C)
set_option maxHeartbeats 4000000 in
set_option maxRecDepth 100000 in
theorem number_calls {b b1 : List Int} {k n1 e1 : Int} {base R C : Nat} {w0 w : World} (hS : RS base R w b 0) (hCS : CS C w ⟨k, E0, 0, 0, 0, 0⟩) (hne : C ≠ R) (hby : Bytes b) (hm : b.length ≤ 100000000000000) (hB : Below base w0 w) (hbr : base ≤ R) (hbc : base ≤ C) (hv : takeS b = (n1, b1, e1)) :
    Calls Tryd.prog 109 #[.pointer (some ⟨R, 0, none⟩), .pointer (some ⟨C, 0, none⟩)] w (ReadPost base R C w0 w ⟨k, E0, n1, 0, 0, 0⟩ b1 e1) := by
  have HN := Aside0.mk (numTakeS_calls hS hby hm hB hbr (show numL takeS b 0 = (n1, b1, e1) by unfold numL; rw [if_pos rfl]; exact hv))
  have HCS := Aside0.mk hCS
  have HBC := Aside0.mk hbc
  clear hS hCS hby hm hB hbr hbc hv
  unfold ReadPost
  go_enter Tryd.func109, Tryd.ntmps109
  go_wp2_with fail
  refine HN.out.mono ?_
  rintro y w1 ⟨rfl, hS1, hB1, hK1⟩
  have hC1 := cs_keep HCS.out hK1 hne
  have d2 : w1.cell? ⟨C, 2, none⟩ = some (.int .i64 0) := cell_of_row _ _ 2 _ _ _ hC1
  have f2 := free_of_cells hC1 2
  have HS := Aside0.mk (rs_far hS1 hC1 hne 2 (.int .i64 n1))
  have HC := Aside0.mk (cs_set2 hC1 n1)
  have HB := Aside0.mk (Below.setCell (p := ⟨C, 2, none⟩) hB1 HBC.out (.int .i64 n1))
  have HK := Aside0.mk (keep_setC (keep_weak hK1 C) 2 (.int .i64 n1))
  clear hS1 hC1 hB1 hK1 HN HCS
  go_wp2
  go_end0
  exact ⟨rfl, HS.out, HC.out, HB.out, HK.out⟩
set_option maxHeartbeats 4000000 in
set_option maxRecDepth 100000 in
theorem class_calls {b b1 : List Int} {k n1 e1 : Int} {base R C : Nat} {w0 w : World} (hS : RS base R w b 0) (hCS : CS C w ⟨k, E0, 0, 0, 0, 0⟩) (hne : C ≠ R) (hby : Bytes b) (hm : b.length ≤ 100000000000000) (hB : Below base w0 w) (hbr : base ≤ R) (hbc : base ≤ C) (hv : takeU b = (n1, b1, e1)) :
    Calls Tryd.prog 106 #[.pointer (some ⟨R, 0, none⟩), .pointer (some ⟨C, 0, none⟩)] w (ReadPost base R C w0 w ⟨k, E0, 0, n1, 0, 0⟩ b1 e1) := by
  have HN := Aside0.mk (numTakeU_calls hS hby hm hB hbr (show numL takeU b 0 = (n1, b1, e1) by unfold numL; rw [if_pos rfl]; exact hv))
  have HCS := Aside0.mk hCS
  have HBC := Aside0.mk hbc
  clear hS hCS hby hm hB hbr hbc hv
  unfold ReadPost
  go_enter Tryd.func106, Tryd.ntmps106
  go_wp2_with fail
  refine HN.out.mono ?_
  rintro y w1 ⟨rfl, hS1, hB1, hK1⟩
  have hC1 := cs_keep HCS.out hK1 hne
  have d2 : w1.cell? ⟨C, 3, none⟩ = some (.int .i64 0) := cell_of_row _ _ 3 _ _ _ hC1
  have f2 := free_of_cells hC1 3
  have HS := Aside0.mk (rs_far hS1 hC1 hne 3 (.int .i64 n1))
  have HC := Aside0.mk (cs_set3 hC1 n1)
  have HB := Aside0.mk (Below.setCell (p := ⟨C, 3, none⟩) hB1 HBC.out (.int .i64 n1))
  have HK := Aside0.mk (keep_setC (keep_weak hK1 C) 3 (.int .i64 n1))
  clear hS1 hC1 hB1 hK1 HN HCS
  go_wp2
  go_end0
  exact ⟨rfl, HS.out, HC.out, HB.out, HK.out⟩
end Go.Proofs.YtkhigagkgpfpfaaDoor.Ext
namespace Go.Proofs.YtkhigagkgpfpfaaDoor.Ext
open Go.RowKit Go.Lib Go.Proofs.YtkhigagkgpfpfaaDoorW.PrintWords Go.Proofs.YtkhigagkgpfpfaaDoorW.PrintLast Go.Proofs.YtkhigagkgpfpfaaDoorW.PrintMore Go.Proofs.YtkhigagkgpfpfaaDoor.PLeb
attribute [local go_sem] max2_int min2_int max_two min_two max_three min_three max_four min_four

theorem bytesN_keep {n : Int} {b : List Int} {e : Int} (hb : Bytes b) : Bytes (bytesN n b e).1 ∧ (bytesN n b e).1.length ≤ b.length := by
  unfold bytesN
  split
  · split
    · exact ⟨fun x hx => (by cases hx), Nat.zero_le _⟩
    · exact ⟨Bytes.take hb _, by rw [List.length_take]; omega⟩
  · exact ⟨fun x hx => (by cases hx), Nat.zero_le _⟩
set_option maxHeartbeats 4000000 in
set_option maxRecDepth 100000 in
theorem text_calls {b b1 : List Int} {k e1 : Int} {t : ByteArray} {base R C : Nat} {w0 w : World} (hS : RS base R w b 0) (hCS : CS C w ⟨k, E0, 0, 0, 0, 0⟩) (hne : C ≠ R) (hby : Bytes b) (hm : b.length ≤ 35184372088000) (hB : Below base w0 w) (hbr : base ≤ R) (hbc : base ≤ C) (hv : textL b = (t, b1, e1)) :
    Calls Tryd.prog 108 #[.pointer (some ⟨R, 0, none⟩), .pointer (some ⟨C, 0, none⟩)] w (ReadPost base R C w0 w ⟨k, t, 0, 0, 0, 0⟩ b1 e1) := by
  obtain ⟨n, ba, ea, hva⟩ : ∃ n ba ea, takeU b = (n, ba, ea) := ⟨_, _, _, rfl⟩
  have hk := takeU_keep hby
  rw [hva] at hk
  obtain ⟨hkb, hkl, hn0, -⟩ : Bytes ba ∧ ba.length ≤ b.length ∧ 0 ≤ n ∧ n ≤ 9007199254740991 := hk
  obtain ⟨s, bb, eb, hvb⟩ : ∃ s bb eb, bytesN n ba ea = (s, bb, eb) := ⟨_, _, _, rfl⟩
  have hs := bytesN_keep (n := n) (e := ea) hkb
  rw [hvb] at hs
  obtain ⟨hsb, hsl⟩ : Bytes s ∧ s.length ≤ ba.length := hs
  obtain ⟨d1, d2, d3, hd⟩ : ∃ d1 d2 d3, decOut s = (d1, d2, d3) := ⟨_, _, _, rfl⟩
  have hv' : (if eb = 0 then (d1, bb, d3) else (E0, bb, eb)) = (t, b1, e1) := by
    rw [← hv]
    unfold textL
    rw [hva]
    simp only [textL1]
    rw [hvb]
    simp only [textL2]
    rw [hd]
  clear hv
  have HV := Aside0.mk hv'
  have HN := Aside0.mk (numTakeU_calls (rs_below hS (Below.drew (Below.refl _ _))) hby (by omega) hB.drew hbr (show numL takeU b 0 = (n, ba, ea) by unfold numL; rw [if_pos rfl]; exact hva))
  have HCD := Aside0.mk (show CS C w.drew ⟨k, E0, 0, 0, 0, 0⟩ from hCS)
  have HBR := Aside0.mk hbr
  have HBC := Aside0.mk hbc
  have HKD := Aside0.mk (show KeepBut w w.drew R (some C) from KeepBut.refl _ _ _)
  have HY := Aside0.mk (fun (w1 : World) (h1 : RS base R w1 ba ea) (h2 : Below base w0 w1) => bytes_calls h1 (by omega) hn0 h2 hbr hvb)
  have HD := Aside0.mk (fun (w1 : World) (A : Option Addr) (n c : Nat) (h1 : Kd.C (Kd.int .u8) w1 A s.length s) (h2 : s.length = n) (h3 : n ≤ c) => decode_eq (w := w1) hd hsb h1 h2 h3 (by omega))
  have HBRL := Aside0.mk (show base ≤ w.heap.size from Nat.le_of_lt (Nat.lt_of_le_of_lt hbr (rs_lt hS)))
  clear hS hCS hby hm hB hbr hbc hv' hva hvb hd hkb hkl hn0 hsb hsl
  unfold ReadPost
  go_enter Tryd.func108, Tryd.ntmps108
  go_wp2_with fail
  go_region_with (first
    | (go_at_call 34; refine HN.out.mono ?_; rintro y w1 ⟨rfl, hS1, hB1, hK1⟩; have HS1 := Aside0.mk hS1; have HB1 := Aside0.mk hB1; have HC1 := Aside0.mk (cs_keep HCD.out hK1 hne); have HK1 := Aside0.mk (keep_trans HKD.out (keep_weak hK1 C)); clear hS1 hB1 hK1)
    | (go_at_call 57; refine (HY.out _ HS1.out HB1.out).mono ?_; rintro y w2 ⟨A2, c2, rfl, hl2, hr2, hS2, hB2, hK2⟩; have HL2 := Aside0.mk hl2; have HR2 := Aside0.mk hr2; have HS2 := Aside0.mk hS2; have HB2 := Aside0.mk hB2; have HC2 := Aside0.mk (cs_keep HC1.out hK2 hne); have HK2 := Aside0.mk (keep_trans HK1.out (keep_weak hK2 C)); clear hl2 hr2 hS2 hB2 hK2)
    | (go_at_call 111; refine (HD.out _ _ _ _ HR2.out rfl HL2.out).mono ?_; rintro y w3 ⟨rfl, hb3⟩; have HS3 := Aside0.mk (rs_below HS2.out hb3); have HC3 := Aside0.mk (cs_below HC2.out hb3); have HB3 := Aside0.mk (below_then HB2.out (Nat.le_of_lt (Nat.lt_of_le_of_lt HBR.out (rs_lt HS2.out))) hb3); have HK3 := Aside0.mk (keep_trans HK2.out (KeepBut.of_below hb3 R (some C))); clear hb3))
  all_goals obtain ⟨A, c, hR, hl, hC, -⟩ := HS3.out
  all_goals have hC3 := HC3.out
  all_goals have c1 : w3.cell? ⟨R, 1, none⟩ = some (.int .i64 eb) := cell_of_row _ _ 1 _ _ _ hR
  all_goals have d1' : w3.cell? ⟨C, 1, none⟩ = some (.string E0) := cell_of_row _ _ 1 _ _ _ hC3
  all_goals have f1 := free_of_cells hR 1
  all_goals have g1 := free_of_cells hC3 1
  all_goals have HS := Aside0.mk (rs_err (rs_far HS3.out hC3 hne 1 (.string d1)) d3)
  all_goals have HC := Aside0.mk (cs_far (cs_set1 hC3 d1) hne 1 (.int .i64 d3))
  all_goals have HB := Aside0.mk (Below.setCell (p := ⟨R, 1, none⟩) (Below.setCell (p := ⟨C, 1, none⟩) HB3.out HBC.out (.string d1)) HBR.out (.int .i64 d3))
  all_goals have HK := Aside0.mk (KeepBut.set_ (keep_setC HK3.out 1 (.string d1)) 1 (.int .i64 d3))
  all_goals clear hR hl hC hC3
  all_goals by_cases he : eb = 0
  all_goals first
    | (subst he
       have hv := HV.out
       rw [if_pos rfl] at hv
       injection hv with h1 h2
       injection h2 with h2 h3
       subst h1; subst h2; subst h3
       go_wp2
       go_end0
       exact ⟨rfl, HS.out, HC.out, HB.out, HK.out⟩)
    | (have hv := HV.out
       rw [if_neg he] at hv
       injection hv with h1 h2
       injection h2 with h2 h3
       subst h1; subst h2; subst h3
       have q1 : (eb == 0) = false := beq_eq_false_iff_ne.2 he
       clear he
       go_wp2
       go_end0
       exact ⟨rfl, HS3.out, HC3.out, HB3.out, HK3.out⟩)
/-- a number after another -/
def refN (b : List Int) : Nat → Int × List Int × Int
  | 0 => (0, b, 0)
  | k + 1 => numL takeU (refN b k).2.1 (refN b k).2.2
def refC (b : List Int) (k0 : Int) : Nat → S35
  | 0 => ⟨k0, E0, 0, 0, 0, 0⟩
  | 1 => ⟨k0, E0, 0, (refN b 1).1, 0, 0⟩
  | 2 => ⟨k0, E0, 0, (refN b 1).1, (refN b 2).1, 0⟩
  | _ => ⟨k0, E0, 0, (refN b 1).1, (refN b 2).1, (refN b 3).1⟩
theorem refN_keep {b : List Int} (hb : Bytes b) : ∀ k, Bytes (refN b k).2.1 ∧ (refN b k).2.1.length ≤ b.length
  | 0 => ⟨hb, Nat.le_refl _⟩
  | k + 1 => by
    have h := refN_keep hb k
    show Bytes (numL takeU (refN b k).2.1 (refN b k).2.2).2.1 ∧ (numL takeU (refN b k).2.1 (refN b k).2.2).2.1.length ≤ b.length
    unfold numL
    split
    · have h2 := takeU_keep h.1
      exact ⟨h2.1, by omega⟩
    · exact h
theorem refL1_eq (b : List Int) (k0 : Int) : refL1 k0 (takeU b) = (refC b k0 3, (refN b 3).2.1, (refN b 3).2.2) := by
  have h1 : refN b 1 = takeU b := rfl
  have h2 : refN b 2 = numL takeU (refN b 1).2.1 (refN b 1).2.2 := rfl
  have h3 : refN b 3 = numL takeU (refN b 2).2.1 (refN b 2).2.2 := rfl
  have e3 : refC b k0 3 = ⟨k0, E0, 0, (refN b 1).1, (refN b 2).1, (refN b 3).1⟩ := rfl
  rw [e3, ← h1]
  generalize refN b 1 = x at *
  obtain ⟨a, c, e⟩ := x
  simp only [refL1] at *
  rw [← h2]
  generalize refN b 2 = x at *
  obtain ⟨a2, c2, e2⟩ := x
  simp only [refL2] at *
  rw [← h3]
  generalize refN b 3 = x at *
  obtain ⟨a3, c3, e3⟩ := x
  rfl
set_option maxHeartbeats 4000000 in
set_option maxRecDepth 100000 in
theorem ref_calls {b : List Int} {k : Int} {base R C : Nat} {w0 w : World} (hS : RS base R w b 0) (hCS : CS C w ⟨k, E0, 0, 0, 0, 0⟩) (hne : C ≠ R) (hby : Bytes b) (hm : b.length ≤ 35184372088000) (hB : Below base w0 w) (hbr : base ≤ R) (hbc : base ≤ C) :
    Calls Tryd.prog 110 #[.pointer (some ⟨R, 0, none⟩), .pointer (some ⟨C, 0, none⟩)] w (ReadPost base R C w0 w (refC b k 3) (refN b 3).2.1 (refN b 3).2.2) := by
  have hR := rs_lt hS
  have hCl : C < w.heap.size := lt_of_block hCS
  have HS := Aside0.mk hS
  have HCS := Aside0.mk hCS
  have HB := Aside0.mk hB
  have HBR := Aside0.mk hbr
  have HBC := Aside0.mk hbc
  have HM := Aside0.mk hm
  have HG := Aside0.mk (refN_keep hby)
  have HBW := Aside0.mk (show base ≤ w.heap.size by omega)
  have hGR : w.heap.size ≠ R := by omega
  have hGC : w.heap.size ≠ C := by omega
  clear hS hCS hby hm hB hbr hbc
  unfold ReadPost
  go_enter Tryd.func110, Tryd.ntmps110
  go_wp2_with fail
  go_region
  go_wp2
  go_loopw [17] (fun i wr => ∃ j : Nat, i = .int .i64 (j : Int) ∧ j ≤ 3 ∧ Aside0 (RS base R wr (refN b j).2.1 (refN b j).2.2) ∧ Aside0 (CS C wr (refC b k j)) ∧ Aside0 (Below base w0 wr) ∧ Aside0 (KeepBut w wr R (some C)) ∧ Aside0 (wr.heap[w.heap.size]? = some (.cells #[.pointer (some ⟨C, 3, none⟩), .pointer (some ⟨C, 4, none⟩), .pointer (some ⟨C, 5, none⟩)] 131 (0, 0)))) (fun i _ => 3 - (RowKit.intOf i).toNat)
  case atStart =>
    refine ⟨0, rfl, by omega, ⟨rs_below HS.out ?_⟩, ⟨cs_below HCS.out ?_⟩, ⟨below_then HB.out HBW.out ?_⟩, ⟨KeepBut.of_below ?_ R (some C)⟩, ⟨?_⟩⟩
    all_goals first | exact heap_alloc_new _ _ | (repeat (first | exact Below.refl _ _ | apply pw_below_drewN | apply below_alloc))
  case round =>
    obtain ⟨j, rfl, hj, HS1, HC1, HB1, HK1, HG1⟩ := hrel
    clear HS HCS HB
    by_cases hlt : j < 3
    · rcases (show j = 0 ∨ j = 1 ∨ j = 2 by omega) with rfl | rfl | rfl
      · have hN := numTakeU_calls HS1.out (HG.out 0).1 (by have := (HG.out 0).2; have := HM.out; omega) HB1.out HBR.out (show numL takeU (refN b 0).2.1 (refN b 0).2.2 = ((refN b 1).1, (refN b 1).2.1, (refN b 1).2.2) from rfl)
        have HN := Aside0.mk hN
        clear hN
        have cG : wr.cell? ⟨w.heap.size, 0, none⟩ = some (.pointer (some ⟨C, 3, none⟩)) := cell_of_row _ _ 0 _ _ _ HG1.out
        obtain ⟨n1, hn1⟩ : ∃ n1, (refN b 1).1 = n1 := ⟨_, rfl⟩
        rw [hn1] at HN
        have HN1 := Aside0.mk hn1
        clear hn1
        go_wp2_with fail
        refine HN.out.mono ?_
        rintro y w1 ⟨rfl, hS1, hB1, hK1⟩
        have hC1 := cs_keep HC1.out hK1 hne
        have d2 : w1.cell? ⟨C, 3, none⟩ = some (.int .i64 0) := cell_of_row _ _ 3 _ _ _ hC1
        have f2 := free_of_cells hC1 3
        have HS2 := Aside0.mk (rs_far hS1 hC1 hne 3 (.int .i64 n1))
        have hC2 := cs_set3 hC1 n1
        have HC2 := Aside0.mk (show CS C (w1.setCell ⟨C, 3, none⟩ (.int .i64 n1)) (refC b k 1) from (by rw [← HN1.out] at hC2 ⊢; exact hC2))
        have HB2 := Aside0.mk (Below.setCell (p := ⟨C, 3, none⟩) hB1 HBC.out (.int .i64 n1))
        have HK2 := Aside0.mk (keep_setC (keep_trans HK1.out (keep_weak hK1 C)) 3 (.int .i64 n1))
        have HG2 := Aside0.mk ((Below.heap_setCell w1 ⟨C, 3, none⟩ (.int .i64 n1) w.heap.size hGC).trans ((hK1.2 w.heap.size (lt_of_block HG1.out) hGR (by simp)).trans HG1.out))
        clear hS1 hC1 hB1 hK1 hC2 HN
        go_wp2
        go_roundw
        case rel => exact ⟨1, rfl, by omega, HS2, HC2, HB2, HK2, HG2⟩
        case measure => simp [RowKit.intOf]
      · have hN := numTakeU_calls HS1.out (HG.out 1).1 (by have := (HG.out 1).2; have := HM.out; omega) HB1.out HBR.out (show numL takeU (refN b 1).2.1 (refN b 1).2.2 = ((refN b 2).1, (refN b 2).2.1, (refN b 2).2.2) from rfl)
        have HN := Aside0.mk hN
        clear hN
        have cG : wr.cell? ⟨w.heap.size, 1, none⟩ = some (.pointer (some ⟨C, 4, none⟩)) := cell_of_row _ _ 1 _ _ _ HG1.out
        obtain ⟨n1, hn1⟩ : ∃ n1, (refN b 2).1 = n1 := ⟨_, rfl⟩
        rw [hn1] at HN
        have HN1 := Aside0.mk hn1
        clear hn1
        go_wp2_with fail
        refine HN.out.mono ?_
        rintro y w1 ⟨rfl, hS1, hB1, hK1⟩
        have hC1 := cs_keep HC1.out hK1 hne
        have d2 : w1.cell? ⟨C, 4, none⟩ = some (.int .i64 0) := cell_of_row _ _ 4 _ _ _ hC1
        have f2 := free_of_cells hC1 4
        have HS2 := Aside0.mk (rs_far hS1 hC1 hne 4 (.int .i64 n1))
        have hC2 := cs_set4 hC1 n1
        have HC2 := Aside0.mk (show CS C (w1.setCell ⟨C, 4, none⟩ (.int .i64 n1)) (refC b k 2) from (by rw [← HN1.out] at hC2 ⊢; exact hC2))
        have HB2 := Aside0.mk (Below.setCell (p := ⟨C, 4, none⟩) hB1 HBC.out (.int .i64 n1))
        have HK2 := Aside0.mk (keep_setC (keep_trans HK1.out (keep_weak hK1 C)) 4 (.int .i64 n1))
        have HG2 := Aside0.mk ((Below.heap_setCell w1 ⟨C, 4, none⟩ (.int .i64 n1) w.heap.size hGC).trans ((hK1.2 w.heap.size (lt_of_block HG1.out) hGR (by simp)).trans HG1.out))
        clear hS1 hC1 hB1 hK1 hC2 HN
        go_wp2
        go_roundw
        case rel => exact ⟨2, rfl, by omega, HS2, HC2, HB2, HK2, HG2⟩
        case measure => simp [RowKit.intOf]
      · have hN := numTakeU_calls HS1.out (HG.out 2).1 (by have := (HG.out 2).2; have := HM.out; omega) HB1.out HBR.out (show numL takeU (refN b 2).2.1 (refN b 2).2.2 = ((refN b 3).1, (refN b 3).2.1, (refN b 3).2.2) from rfl)
        have HN := Aside0.mk hN
        clear hN
        have cG : wr.cell? ⟨w.heap.size, 2, none⟩ = some (.pointer (some ⟨C, 5, none⟩)) := cell_of_row _ _ 2 _ _ _ HG1.out
        obtain ⟨n1, hn1⟩ : ∃ n1, (refN b 3).1 = n1 := ⟨_, rfl⟩
        rw [hn1] at HN
        have HN1 := Aside0.mk hn1
        clear hn1
        go_wp2_with fail
        refine HN.out.mono ?_
        rintro y w1 ⟨rfl, hS1, hB1, hK1⟩
        have hC1 := cs_keep HC1.out hK1 hne
        have d2 : w1.cell? ⟨C, 5, none⟩ = some (.int .i64 0) := cell_of_row _ _ 5 _ _ _ hC1
        have f2 := free_of_cells hC1 5
        have HS2 := Aside0.mk (rs_far hS1 hC1 hne 5 (.int .i64 n1))
        have hC2 := cs_set5 hC1 n1
        have HC2 := Aside0.mk (show CS C (w1.setCell ⟨C, 5, none⟩ (.int .i64 n1)) (refC b k 3) from (by rw [← HN1.out] at hC2 ⊢; exact hC2))
        have HB2 := Aside0.mk (Below.setCell (p := ⟨C, 5, none⟩) hB1 HBC.out (.int .i64 n1))
        have HK2 := Aside0.mk (keep_setC (keep_trans HK1.out (keep_weak hK1 C)) 5 (.int .i64 n1))
        have HG2 := Aside0.mk ((Below.heap_setCell w1 ⟨C, 5, none⟩ (.int .i64 n1) w.heap.size hGC).trans ((hK1.2 w.heap.size (lt_of_block HG1.out) hGR (by simp)).trans HG1.out))
        clear hS1 hC1 hB1 hK1 hC2 HN
        go_wp2
        go_roundw
        case rel => exact ⟨3, rfl, by omega, HS2, HC2, HB2, HK2, HG2⟩
        case measure => simp [RowKit.intOf]
    · obtain rfl : j = 3 := by omega
      go_wp2
      go_end0
      exact ⟨rfl, HS1.out, HC1.out, HB1.out, HK1.out⟩
end Go.Proofs.YtkhigagkgpfpfaaDoor.Ext

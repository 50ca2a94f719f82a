/- The reference's reader of package pool, walked: a number, a text. -/
import Derived.Test.YtkhigagkgpfpfaaDoorPoolParse
import Derived.Test.YtkhigagkgpfpfaaDoorPoolRefTake
import Derived.Test.YtkhigagkgpfpfaaDoorPLebx4
import Derived.Test.YtkhigagkgpfpfaaDoorTextRefDec2
set_option linter.unusedVariables false
set_option linter.unusedSimpArgs false
namespace Go.Proofs.YtkhigagkgpfpfaaDoor.Ext.Rf
open Go.RowKit Go.Lib Go.Proofs.YtkhigagkgpfpfaaDoorW.PrintWords Go.Proofs.YtkhigagkgpfpfaaDoorW.PrintLast Go.Proofs.YtkhigagkgpfpfaaDoorW.PrintMore Go.Proofs.YtkhigagkgpfpfaaDoor.PLeb
attribute [local go_sem] max2_int min2_int max_two min_two max_three min_three max_four min_four

/-- the reader's block: what is left, and the first error -/
def RS (base R : Nat) (w : World) (b : List Int) (e : Int) : Prop :=
  ∃ (A : Option Addr) (c : Nat), w.heap[R]? = some (.cells #[.slice A b.length c, .int .i64 e] 62 (0, 0)) ∧ b.length ≤ c ∧ Kd.C (Kd.int .u8) w A b.length b ∧ TB base w A b.length
theorem rs_both {base : Nat} {w : World} {R n0 c0 c : Nat} {A0 A : Option Addr} {e e' : Int} {b : List Int} (hR : w.heap[R]? = some (.cells #[.slice A0 n0 c0, .int .i64 e] 62 (0, 0))) (hl : b.length ≤ c) (hC : Kd.C (Kd.int .u8) w A b.length b) (hT : TB base w A b.length) :
    RS base R ((w.setCell ⟨R, 0, none⟩ (.slice A b.length c)).setCell ⟨R, 1, none⟩ (.int .i64 e')) b e' := by
  have h1 : (w.setCell ⟨R, 0, none⟩ (.slice A b.length c)).heap[R]? = some (.cells #[.slice A b.length c, .int .i64 e] 62 (0, 0)) := cells_set hR rfl
  exact ⟨A, c, cells_set h1 rfl, hl, c_set (c_set hC hR 0 _) h1 1 _, (hT.set R 0 _).set R 1 _⟩
theorem rs_err {base : Nat} {w : World} {R : Nat} {e : Int} {b : List Int} (h : RS base R w b e) (e' : Int) : RS base R (w.setCell ⟨R, 1, none⟩ (.int .i64 e')) b e' := by
  obtain ⟨A, c, hR, hl, hC, hT⟩ := h
  exact ⟨A, c, cells_set hR rfl, hl, c_set hC hR 1 _, hT.set R 1 _⟩
theorem rs_row {base : Nat} {w : World} {R n0 c0 c : Nat} {A0 A : Option Addr} {e : Int} {b : List Int} (hR : w.heap[R]? = some (.cells #[.slice A0 n0 c0, .int .i64 e] 62 (0, 0))) (hl : b.length ≤ c) (hC : Kd.C (Kd.int .u8) w A b.length b) (hT : TB base w A b.length) :
    RS base R (w.setCell ⟨R, 0, none⟩ (.slice A b.length c)) b e := ⟨A, c, cells_set hR rfl, hl, c_set hC hR 0 _, hT.set R 0 _⟩
theorem rs_below {base : Nat} {w w1 : World} {R : Nat} {e : Int} {b : List Int} (h : RS base R w b e) (hb : Below w.heap.size w w1) : RS base R w1 b e := by
  obtain ⟨A, c, hR, hl, hC, hT⟩ := h
  exact ⟨A, c, (hb.block R (lt_of_block hR)).trans hR, hl, Kd.C_below hC hb, hT.below hb⟩
theorem rs_lt {base : Nat} {w : World} {R : Nat} {e : Int} {b : List Int} (h : RS base R w b e) : R < w.heap.size := by
  obtain ⟨A, c, hR, hl, hC⟩ := h
  exact lt_of_block hR
theorem rs_far {base : Nat} {w : World} {R C : Nat} {b : List Int} {e : Int} {x : S35} (h : RS base R w b e) (hC : CS C w x) (hne : C ≠ R) (j : Nat) (u : Value) : RS base R (w.setCell ⟨C, j, none⟩ u) b e := by
  obtain ⟨A, c, hR, hl, hr, hT⟩ := h
  exact ⟨A, c, (Below.heap_setCell w ⟨C, j, none⟩ u R (fun h => hne h.symm)).trans hR, hl, Kd.C_keep 0 hr (KeepBut.set_ (KeepBut.refl w C none) j u) (c_neC hr hC), hT.set C j u⟩
theorem rs_keepC {base : Nat} {w w1 : World} {R C : Nat} {b : List Int} {e : Int} {x : S35} (h : RS base R w b e) (hC : CS C w x) (hne : C ≠ R) (hk : KeepBut w w1 C none) : RS base R w1 b e := by
  obtain ⟨A, c, hR, hl, hr, hT⟩ := h
  exact ⟨A, c, (hk.2 R (lt_of_block hR) (fun h => hne h.symm) (by simp)).trans hR, hl, Kd.C_keep 0 hr hk (c_neC hr hC), hT.keep hC (by decide) hk⟩
theorem rs_grown {base R : Nat} {W w5 : World} {v : Value} {l : List S35} {b : List Int} {e : Int} {ok : Nat → Prop} (hS : RS base R W b e) (hO : Kd.R k35 35 W base ok v l) (hR : ∀ k, v.ownBlock = some k → k ≠ R) (hg : W.grownBy w5 v.ownBlock) : RS base R w5 b e := by
  obtain ⟨A, c, hR', hl, hr, hT⟩ := hS
  obtain ⟨inner, ho⟩ := Kd.R_own hO
  have hne : ∀ ad, A = some ad → 0 < b.length → some ad.block ≠ v.ownBlock := by
    intro ad hA hn he
    rcases hT ad hA hn with h | ⟨cs, h⟩
    · have := own_base ho ad.block he.symm; omega
    · obtain ⟨cells, hc⟩ := own_typed ho ad.block he.symm
      rw [h] at hc
      injection hc with hc
      injection hc with _ hc _
      exact absurd hc (by decide)
  refine ⟨A, c, (hg.block R (lt_of_block hR') (fun h => hR R h.symm rfl)).trans hR', hl, ?_, ?_⟩
  · cases hv : v.ownBlock with
    | none => exact Kd.C_below hr ⟨hg.os, hg.tape, hg.output, hg.size, fun k hk => hg.block k hk (by rw [hv]; simp)⟩
    | some g => exact Kd.C_keep 0 hr (g := g) ⟨hg.size, fun i hi hne' _ => hg.block i hi (by rw [hv]; simpa using hne')⟩ (fun ad hA hn e => hne ad hA hn (by rw [hv, e]))
  · intro ad hA hn
    rcases hT ad hA hn with h | ⟨cs, h⟩
    · exact .inl h
    · exact .inr ⟨cs, (hg.block _ (lt_of_block h) (hne ad hA hn)).trans h⟩
theorem rs_both' {base : Nat} {w : World} {R n0 c0 c : Nat} {A0 A : Option Addr} {e e' : Int} {b : List Int} (hR : w.heap[R]? = some (.cells #[.slice A0 n0 c0, .int .i64 e] 62 (0, 0))) (hl : b.length ≤ c) (hC : Kd.C (Kd.int .u8) w A b.length b) (hT : TB base w A b.length) :
    RS base R ((w.setCell ⟨R, 1, none⟩ (.int .i64 e')).setCell ⟨R, 0, none⟩ (.slice A b.length c)) b e' := by
  have h1 : (w.setCell ⟨R, 1, none⟩ (.int .i64 e')).heap[R]? = some (.cells #[.slice A0 n0 c0, .int .i64 e'] 62 (0, 0)) := cells_set hR rfl
  exact ⟨A, c, cells_set h1 rfl, hl, c_set (c_set hC hR 1 _) h1 0 _, (hT.set R 1 _).set R 0 _⟩
theorem takeS_any (k : Nat) {l : List Int} (hb : Bytes l) (hm : l.length ≤ 140737488355300) : leb_TakeS.f (k + 1) l = some (takeS l) := by
  induction k with
  | zero => exact TakeS_eq l hb hm
  | succ k ih => exact leb_TakeS.mono l (k + 1) _ ih
theorem TakeU_calls {b : List Int} {A : Option Addr} {n c : Nat} (w : World) (hby : Bytes b) (hm : b.length ≤ 100000000000000) (hr : Kd.C (Kd.int .u8) w A b.length b) (hn : b.length = n) (hc : n ≤ c) :
    Calls Tryd.prog 58 #[.slice A n c] w fun e w' => ∃ (A1 : Option Addr) (c1 : Nat), e = .returned (.tuple #[.int .i64 (takeU b).1, .slice A1 (takeU b).2.1.length c1, .int .i64 (takeU b).2.2]) ∧ (takeU b).2.1.length ≤ c1 ∧ Kd.C (Kd.int .u8) w' A1 (takeU b).2.1.length (takeU b).2.1 ∧ (∀ base, TB base w' A1 (takeU b).2.1.length) ∧ Below w.heap.size w w' := by
  subst hn
  refine (R1_TakeU.calls 10 A c b (takeU b).1 (takeU b).2.1 (takeU b).2.2 w hr hc (R1_TakeU_f 10 b (by omega) hby (by show _ ≤ 140737488355300; omega))).mono ?_
  rintro e w' ⟨v, rfl, ho, hb⟩
  obtain ⟨A1, c1, rfl, hl, hC⟩ := Kd.R_reads ho
  exact ⟨A1, c1, rfl, hl, hC, fun base => TB.own (v := .nilFunc) ho, hb⟩
set_option maxHeartbeats 4000000 in
set_option maxRecDepth 100000 in
theorem u_calls {b b1 : List Int} {e n1 e1 : Int} {base R : Nat} {w0 w : World} (hS : RS base R w b e) (hby : Bytes b) (hm : b.length ≤ 100000000000000) (hB : Below base w0 w) (hbr : base ≤ R) (hv : numL takeU b e = (n1, b1, e1)) :
    Calls Tryd.prog 38 #[.pointer (some ⟨R, 0, none⟩)] w fun x w' => x = .returned (.int .i64 n1) ∧ RS base R w' b1 e1 ∧ Below base w0 w' ∧ KeepBut w w' R none := by
  have HS := Aside0.mk hS
  have HB := Aside0.mk hB
  have HLT := Aside0.mk (rs_lt hS)
  obtain ⟨A, c, hR, hl, hC, hTB⟩ := hS
  have HR := Aside0.mk hR
  have c0 : w.cell? ⟨R, 0, none⟩ = some (.slice A b.length c) := cell_of_row _ _ 0 _ _ _ hR
  have c1 : w.cell? ⟨R, 1, none⟩ = some (.int .i64 e) := cell_of_row _ _ 1 _ _ _ hR
  have HT := Aside0.mk (TakeU_calls (A := A) (c := c) w hby hm hC rfl hl)
  have HBR := Aside0.mk hbr
  clear hB hl hC hR hby hm hbr hTB
  unfold numL at hv
  by_cases he : e = 0
  · subst he
    rw [if_pos rfl] at hv
    have HV := Aside0.mk hv
    clear hv
    go_enter Tryd.func38, Tryd.ntmps38
    go_wp2_with fail
    refine HT.out.mono ?_
    rw [HV.out]
    rintro x w1 ⟨A1, c1', rfl, hl1, hC1, hT1, hb⟩
    have hR1 := (hb.block R HLT.out).trans HR.out
    have HP := Aside0.mk (rs_both' (e' := e1) hR1 hl1 hC1 (hT1 base))
    have HB1 := Aside0.mk (Below.setCell (p := ⟨R, 0, none⟩) (Below.setCell (p := ⟨R, 1, none⟩) (below_then HB.out (Nat.le_of_lt (Nat.lt_of_le_of_lt HBR.out HLT.out)) hb) HBR.out (.int .i64 e1)) HBR.out (.slice A1 b1.length c1'))
    have HK := Aside0.mk (KeepBut.set_ (KeepBut.set_ (KeepBut.of_below hb R none) 1 (.int .i64 e1)) 0 (.slice A1 b1.length c1'))
    have d0 : w1.cell? ⟨R, 0, none⟩ = some (.slice A b.length c) := cell_of_row _ _ 0 _ _ _ hR1
    have d1 : w1.cell? ⟨R, 1, none⟩ = some (.int .i64 0) := cell_of_row _ _ 1 _ _ _ hR1
    have f0 := free_of_cells hR1 0
    have f1 := free_of_cells hR1 1
    clear hb hC1 hl1 hR1 hT1 HT
    go_wp2
    go_ret
    exact ⟨rfl, HP.out, HB1.out, HK.out⟩
  · rw [if_neg he] at hv
    have q1 : (e != 0) = true := bne_iff_ne.2 he
    injection hv with h1 h2
    injection h2 with h2 h3
    subst h1; subst h2; subst h3
    clear he HT
    go_enter Tryd.func38, Tryd.ntmps38
    go_wp2
    go_ret
    exact ⟨rfl, HS.out, HB.out, KeepBut.refl _ _ _⟩
theorem TakeS_calls {b : List Int} {A : Option Addr} {n c : Nat} (w : World) (hby : Bytes b) (hm : b.length ≤ 100000000000000) (hr : Kd.C (Kd.int .u8) w A b.length b) (hn : b.length = n) (hc : n ≤ c) :
    Calls Tryd.prog 70 #[.slice A n c] w fun e w' => ∃ (A1 : Option Addr) (c1 : Nat), e = .returned (.tuple #[.int .i64 (takeS b).1, .slice A1 (takeS b).2.1.length c1, .int .i64 (takeS b).2.2]) ∧ (takeS b).2.1.length ≤ c1 ∧ Kd.C (Kd.int .u8) w' A1 (takeS b).2.1.length (takeS b).2.1 ∧ (∀ base, TB base w' A1 (takeS b).2.1.length) ∧ Below w.heap.size w w' := by
  subst hn
  refine (R1_TakeS.calls (b.length + 30) A c b (takeS b).1 (takeS b).2.1 (takeS b).2.2 w hr hc ((R1_TakeS_f (b.length + 30) b (by omega) hby (by show _ ≤ 140737488355300; omega)).trans (takeS_any (b.length + 29) hby (by omega)))).mono ?_
  rintro e w' ⟨v, rfl, ho, hb⟩
  obtain ⟨A1, c1, rfl, hl, hC⟩ := Kd.R_reads ho
  exact ⟨A1, c1, rfl, hl, hC, fun base => TB.own (v := .nilFunc) ho, hb⟩
set_option maxHeartbeats 4000000 in
set_option maxRecDepth 100000 in
theorem s_calls {b b1 : List Int} {e n1 e1 : Int} {base R : Nat} {w0 w : World} (hS : RS base R w b e) (hby : Bytes b) (hm : b.length ≤ 100000000000000) (hB : Below base w0 w) (hbr : base ≤ R) (hv : numL takeS b e = (n1, b1, e1)) :
    Calls Tryd.prog 60 #[.pointer (some ⟨R, 0, none⟩)] w fun x w' => x = .returned (.int .i64 n1) ∧ RS base R w' b1 e1 ∧ Below base w0 w' ∧ KeepBut w w' R none := by
  have HS := Aside0.mk hS
  have HB := Aside0.mk hB
  have HLT := Aside0.mk (rs_lt hS)
  obtain ⟨A, c, hR, hl, hC, hTB⟩ := hS
  have HR := Aside0.mk hR
  have c0 : w.cell? ⟨R, 0, none⟩ = some (.slice A b.length c) := cell_of_row _ _ 0 _ _ _ hR
  have c1 : w.cell? ⟨R, 1, none⟩ = some (.int .i64 e) := cell_of_row _ _ 1 _ _ _ hR
  have HT := Aside0.mk (TakeS_calls (A := A) (c := c) w hby hm hC rfl hl)
  have HBR := Aside0.mk hbr
  clear hB hl hC hR hby hm hbr hTB
  unfold numL at hv
  by_cases he : e = 0
  · subst he
    rw [if_pos rfl] at hv
    have HV := Aside0.mk hv
    clear hv
    go_enter Tryd.func60, Tryd.ntmps60
    go_wp2_with fail
    refine HT.out.mono ?_
    rw [HV.out]
    rintro x w1 ⟨A1, c1', rfl, hl1, hC1, hT1, hb⟩
    have hR1 := (hb.block R HLT.out).trans HR.out
    have HP := Aside0.mk (rs_both' (e' := e1) hR1 hl1 hC1 (hT1 base))
    have HB1 := Aside0.mk (Below.setCell (p := ⟨R, 0, none⟩) (Below.setCell (p := ⟨R, 1, none⟩) (below_then HB.out (Nat.le_of_lt (Nat.lt_of_le_of_lt HBR.out HLT.out)) hb) HBR.out (.int .i64 e1)) HBR.out (.slice A1 b1.length c1'))
    have HK := Aside0.mk (KeepBut.set_ (KeepBut.set_ (KeepBut.of_below hb R none) 1 (.int .i64 e1)) 0 (.slice A1 b1.length c1'))
    have d0 : w1.cell? ⟨R, 0, none⟩ = some (.slice A b.length c) := cell_of_row _ _ 0 _ _ _ hR1
    have d1 : w1.cell? ⟨R, 1, none⟩ = some (.int .i64 0) := cell_of_row _ _ 1 _ _ _ hR1
    have f0 := free_of_cells hR1 0
    have f1 := free_of_cells hR1 1
    clear hb hC1 hl1 hR1 hT1 HT
    go_wp2
    go_ret
    exact ⟨rfl, HP.out, HB1.out, HK.out⟩
  · rw [if_neg he] at hv
    have q1 : (e != 0) = true := bne_iff_ne.2 he
    injection hv with h1 h2
    injection h2 with h2 h3
    subst h1; subst h2; subst h3
    clear he HT
    go_enter Tryd.func60, Tryd.ntmps60
    go_wp2
    go_ret
    exact ⟨rfl, HS.out, HB.out, KeepBut.refl _ _ _⟩
set_option maxHeartbeats 4000000 in
set_option maxRecDepth 100000 in
theorem text_calls {b b1 : List Int} {e1 : Int} {t : ByteArray} {base R : Nat} {w0 w : World} (hS : RS base R w b 0) (hby : Bytes b) (hm : b.length ≤ 35184372088000) (hB : Below base w0 w) (hbr : base ≤ R) (hv : textL b = (t, b1, e1)) :
    Calls Tryd.prog 59 #[.pointer (some ⟨R, 0, none⟩)] w fun x w' => x = .returned (.string t) ∧ RS base R w' b1 e1 ∧ Below base w0 w' ∧ KeepBut w w' R none := by
  obtain ⟨n, ba, ea, hva⟩ : ∃ n ba ea, takeU b = (n, ba, ea) := ⟨_, _, _, rfl⟩
  have hk := takeU_keep hby
  rw [hva] at hk
  obtain ⟨hkb, hkl, hn0, -⟩ : Bytes ba ∧ ba.length ≤ b.length ∧ 0 ≤ n ∧ n ≤ 9007199254740991 := hk
  obtain ⟨q, rfl⟩ : ∃ q : Nat, n = (q : Int) := ⟨n.toNat, by omega⟩
  unfold textL at hv
  rw [hva] at hv
  simp only [textL1, bytesN] at hv
  have HN := Aside0.mk (u_calls hS hby (by omega) hB hbr (show numL takeU b 0 = ((q : Int), ba, ea) by unfold numL; rw [if_pos rfl]; exact hva))
  have HBR := Aside0.mk hbr
  have HBB := Aside0.mk hkb
  have HBL := Aside0.mk (show ba.length ≤ 35184372088000 by omega)
  clear hS hby hm hB hbr hva hkb hkl hn0
  by_cases he : ea = 0
  · subst he
    rw [if_pos rfl] at hv
    by_cases hq : (ba.length : Int) < (q : Int)
    · rw [if_pos hq] at hv
      simp only [textL2] at hv
      rw [if_neg (by decide)] at hv
      injection hv with h1 h2
      injection h2 with h2 h3
      subst h1; subst h2; subst h3
      have q1 : ba.length < q := by omega
      clear hq
      go_enter Tryd.func59, Tryd.ntmps59
      go_wp2_with fail
      refine HN.out.mono ?_
      rintro x w1 ⟨rfl, hS1, hB1, hK1⟩
      have HP := Aside0.mk (rs_err hS1 3)
      have HB1 := Aside0.mk (Below.setCell (p := ⟨R, 1, none⟩) hB1 HBR.out (.int .i64 3))
      have HK := Aside0.mk (KeepBut.set_ hK1 1 (.int .i64 3))
      obtain ⟨A1, c1, hR1, -, -, -⟩ := hS1
      have d0 : w1.cell? ⟨R, 0, none⟩ = some (.slice A1 ba.length c1) := cell_of_row _ _ 0 _ _ _ hR1
      have d1 : w1.cell? ⟨R, 1, none⟩ = some (.int .i64 0) := cell_of_row _ _ 1 _ _ _ hR1
      have f1 := free_of_cells hR1 1
      clear hR1 hB1 hK1 HN
      go_wp2
      go_ret
      exact ⟨rfl, HP.out, HB1.out, HK.out⟩
    · rw [if_neg hq, Int.toNat_natCast] at hv
      simp only [textL2] at hv
      rw [if_pos trivial] at hv
      obtain ⟨d1, d2, d3, hd⟩ : ∃ d1 d2 d3, decOut (ba.take q) = (d1, d2, d3) := ⟨_, _, _, rfl⟩
      rw [hd] at hv
      injection hv with h1 h2
      injection h2 with h2 h3
      have h1' : d1 = t := h1
      have h3' : d3 = e1 := h3
      subst h1'; subst h2; subst h3'
      clear h1 h3
      have hkb : q ≤ ba.length := by omega
      have q1 : ¬ ba.length < q := by omega
      have HKB := Aside0.mk hkb
      have HD := Aside0.mk hd
      clear hq hkb hd
      go_enter Tryd.func59, Tryd.ntmps59
      go_wp2_with fail
      refine HN.out.mono ?_
      rintro x w1 ⟨rfl, hS1, hB1, hK1⟩
      have HS1 := Aside0.mk hS1
      obtain ⟨A1, c1, hR1, hl1, hC1, -⟩ := hS1
      have d0 : w1.cell? ⟨R, 0, none⟩ = some (.slice A1 ba.length c1) := cell_of_row _ _ 0 _ _ _ hR1
      have d1' : w1.cell? ⟨R, 1, none⟩ = some (.int .i64 0) := cell_of_row _ _ 1 _ _ _ hR1
      have s3 := slice_to ba A1 c1 q HKB.out hl1
      have HDC := Aside0.mk (rdecode_eq (w := w1) (A := A1) (c := c1) (n := q) HD.out (Bytes.take HBB.out q) (Kd.C_take hC1 HKB.out) (by rw [List.length_take, Nat.min_eq_left HKB.out]) (by have := HKB.out; omega) (by have := HKB.out; have := HBL.out; omega))
      have HB1 := Aside0.mk hB1
      have HK1 := Aside0.mk hK1
      clear hR1 hB1 hK1 HN hC1 hl1
      go_wp2_with fail
      refine HDC.out.mono ?_
      rintro y w2 ⟨rfl, hb⟩
      have hS2 := rs_below HS1.out hb
      have HS3 := Aside0.mk (rs_err hS2 d3)
      obtain ⟨A2, c2, hR2, hl2, hC2, hT2⟩ := hS2
      obtain ⟨A', s1, s2, s4⟩ := bslice_from ba A2 c2 q HKB.out hl2
      have hR3 : (w2.setCell ⟨R, 1, none⟩ (.int .i64 d3)).heap[R]? = some (.cells #[.slice A2 ba.length c2, .int .i64 d3] 62 (0, 0)) := cells_set hR2 rfl
      have hrow := rs_row hR3 (by rw [List.length_drop]; omega : (ba.drop q).length ≤ c2 - q) (c_set (s2 w2 hC2) hR2 1 _) ((TB.cut hT2 (by rw [List.length_drop]; omega) s4).set R 1 _)
      rw [List.length_drop] at hrow
      have HP := Aside0.mk hrow
      have HB3 := Aside0.mk (Below.setCell (p := ⟨R, 0, none⟩) (Below.setCell (p := ⟨R, 1, none⟩) (below_then HB1.out (Nat.le_of_lt (Nat.lt_of_le_of_lt HBR.out (rs_lt HS1.out))) hb) HBR.out (.int .i64 d3)) HBR.out (.slice A' (ba.length - q) (c2 - q)))
      have HK3 := Aside0.mk (KeepBut.set_ (KeepBut.set_ (KeepBut.trans HK1.out (KeepBut.of_below hb R none) (Or.inl rfl)) 1 (.int .i64 d3)) 0 (.slice A' (ba.length - q) (c2 - q)))
      have g0 : w2.cell? ⟨R, 0, none⟩ = some (.slice A2 ba.length c2) := cell_of_row _ _ 0 _ _ _ hR2
      have g1 : w2.cell? ⟨R, 1, none⟩ = some (.int .i64 0) := cell_of_row _ _ 1 _ _ _ hR2
      have f0 := free_of_cells hR2 0
      have f1 := free_of_cells hR2 1
      clear hR2 hl2 hC2 hT2 s2 s4 hR3 hrow hb HDC s3
      go_wp2
      go_ret
      exact ⟨rfl, HP.out, HB3.out, HK3.out⟩
  · rw [if_neg he] at hv
    simp only [textL2] at hv
    rw [if_neg he] at hv
    injection hv with h1 h2
    injection h2 with h2 h3
    subst h1; subst h2; subst h3
    have q1 : (ea != 0) = true := bne_iff_ne.2 he
    clear he
    go_enter Tryd.func59, Tryd.ntmps59
    go_wp2_with fail
    refine HN.out.mono ?_
    rintro x w1 ⟨rfl, hS1, hB1, hK1⟩
    have HS1 := Aside0.mk hS1
    have HB1 := Aside0.mk hB1
    have HK1 := Aside0.mk hK1
    obtain ⟨A1, c1, hR1, -, -, -⟩ := hS1
    have d1 : w1.cell? ⟨R, 1, none⟩ = some (.int .i64 ea) := cell_of_row _ _ 1 _ _ _ hR1
    clear hR1 hB1 hK1 HN
    go_wp2
    go_ret
    exact ⟨rfl, HS1.out, HB1.out, HK1.out⟩
end Go.Proofs.YtkhigagkgpfpfaaDoor.Ext.Rf

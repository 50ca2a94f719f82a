/- pool.Bytes's two closures, walked: bytes put behind others, numbers' bytes put there. -/
import Derived.Test.YtkhigagkgpfpfaaDoorPoolCheck
import Derived.Test.YtkhigagkgpfpfaaDoorLebSpec
import Derived.Deep.RegionWith
import Derived.Lib.OthersKept
set_option linter.unusedVariables false
set_option linter.unusedSimpArgs false
namespace Go.Proofs.YtkhigagkgpfpfaaDoor.Ext
open Go.RowKit Go.Lib Go.Proofs.YtkhigagkgpfpfaaDoorW.PrintWords Go.Proofs.YtkhigagkgpfpfaaDoorW.PrintLast Go.Proofs.YtkhigagkgpfpfaaDoorW.PrintMore Go.Proofs.YtkhigagkgpfpfaaDoor.PLeb
attribute [local go_sem] max2_int min2_int max_two min_two max_three min_three max_four min_four

theorem own_ne {w : World} {base n : Nat} {v : Value} {xs : List Value} {P : Nat} {C : Array Value} {t : TypeId} {fz : Nat × Nat} (h : w.ownsRow base 5 1 v n xs) (hP : w.heap[P]? = some (.cells C t fz)) (ht : t ≠ 5) : v.ownBlock ≠ some P := by
  rcases h.2 with ⟨rfl, -⟩ | ⟨g, cap, cur, rfl, hg, hh, r⟩
  · simp [Value.ownBlock]
  · intro e
    simp only [Value.ownBlock, Option.some.injEq] at e
    subst e
    rw [hP] at hh
    injection hh with hh
    injection hh with _ hh _
    exact ht hh
/-- the state of Bytes: what was put, and no error -/
def PutSt (base P Q : Nat) (w : World) (out : List Int) : Prop :=
  P ≠ Q ∧ base ≤ P ∧ base ≤ Q ∧ ∃ v, w.heap[P]? = some (.cells #[v] 22 (0, 0)) ∧ w.heap[Q]? = some (.cells #[.int .i64 0] 25 (0, 0)) ∧ w.ownsRow base 5 1 v out.length (nums .u8 out)
/-- every old block is kept but the variable's and the row's, which may move to a new block -/
def Kept5 (P : Nat) (w w' : World) : Prop := w.heap.size ≤ w'.heap.size ∧ ∀ v, w.heap[P]? = some (.cells #[v] 22 (0, 0)) →
  (∃ v', w'.heap[P]? = some (.cells #[v'] 22 (0, 0)) ∧ (v'.ownBlock = v.ownBlock ∨ ∃ b, v'.ownBlock = some b ∧ w.heap.size ≤ b)) ∧ ∀ i o, w.heap[i]? = some o → i ≠ P → v.ownBlock ≠ some i → w'.heap[i]? = some o
theorem Kept5.trans {P : Nat} {w w1 w2 : World} (h : Kept5 P w w1) (k : Kept5 P w1 w2) : Kept5 P w w2 := by
  refine ⟨Nat.le_trans h.1 k.1, fun v hv => ?_⟩
  obtain ⟨⟨v1, hv1, ha⟩, hk⟩ := h.2 v hv
  obtain ⟨⟨v2, hv2, hb⟩, hj⟩ := k.2 v1 hv1
  have hs := h.1
  refine ⟨⟨v2, hv2, ?_⟩, fun i o hi hp hn => hj i o (hk i o hi hp hn) hp ?_⟩
  · rcases hb with hb | ⟨b, hb, hb1⟩
    · rw [hb]; exact ha
    · exact Or.inr ⟨b, hb, by omega⟩
  · have hlt := lt_of_block hi
    rcases ha with ha | ⟨b, ha, hb1⟩
    · rw [ha]; exact hn
    · rw [ha]; intro e; injection e with e; omega
theorem Kept5.below {P : Nat} {w w1 : World} (hb : Below w.heap.size w w1) : Kept5 P w w1 :=
  ⟨hb.size, fun v hv => ⟨⟨v, (hb.block P (lt_of_block hv)).trans hv, Or.inl rfl⟩, fun i o hi _ _ => (hb.block i (lt_of_block hi)).trans hi⟩⟩
theorem put_end {base P Q n : Nat} {w0 w w5 : World} {v v1 : Value} {z : List Int} {xs : List Value} (hpq : P ≠ Q) (hbp : base ≤ P) (hbq : base ≤ Q) (hO : w.ownsRow base 5 1 v n xs) (hP1 : w5.heap[P]? = some (.cells #[v] 22 (0, 0)))
    (hQ : w.heap[Q]? = some (.cells #[.int .i64 0] 25 (0, 0))) (hQ1 : w5.heap[Q]? = some (.cells #[.int .i64 0] 25 (0, 0)))
    (hO1 : w5.ownsRow base 5 1 v1 z.length (nums .u8 z)) (hB1 : Below base w0 w5) (hg : w.grownBy w5 v.ownBlock)
    (hP : w.heap[P]? = some (.cells #[v] 22 (0, 0))) (hat : v1.ownBlock = v.ownBlock ∨ ∃ b, v1.ownBlock = some b ∧ w.heap.size ≤ b) :
    PutSt base P Q ((w5.setCell ⟨P, 0, none⟩ v1).setCell ⟨Q, 0, none⟩ (.int .i64 0)) z ∧ Below base w0 ((w5.setCell ⟨P, 0, none⟩ v1).setCell ⟨Q, 0, none⟩ (.int .i64 0)) ∧ OthersKept 5 (some P) w ((w5.setCell ⟨P, 0, none⟩ v1).setCell ⟨Q, 0, none⟩ (.int .i64 0)) ∧ Kept5 P w ((w5.setCell ⟨P, 0, none⟩ v1).setCell ⟨Q, 0, none⟩ (.int .i64 0)) := by
  have hP2 := one_setCell (u := v1) hP1
  have hQ2 : (w5.setCell ⟨P, 0, none⟩ v1).heap[Q]? = some (.cells #[.int .i64 0] 25 (0, 0)) := by rw [Below.heap_setCell _ _ _ _ (fun e => hpq e.symm)]; exact hQ1
  have hP3 : ((w5.setCell ⟨P, 0, none⟩ v1).setCell ⟨Q, 0, none⟩ (.int .i64 0)).heap[P]? = some (.cells #[v1] 22 (0, 0)) := by rw [Below.heap_setCell _ _ _ _ (fun e => hpq e)]; exact hP2
  have hQ3 := one_setCell (u := .int .i64 0) hQ2
  have hO2 := ownsRow_setCell_other hO1 (a := ⟨P, 0, none⟩) (own_ne hO1 hP1 (by decide)) v1
  have hO3 := ownsRow_setCell_other hO2 (a := ⟨Q, 0, none⟩) (own_ne hO2 hQ2 (by decide)) (.int .i64 0)
  refine ⟨⟨hpq, hbp, hbq, v1, hP3, hQ3, hO3⟩, (hB1.setCell (p := ⟨P, 0, none⟩) hbp v1).setCell (p := ⟨Q, 0, none⟩) hbq _, ?_, ?_⟩
  rotate_left
  · have hsz : w5.heap.size = ((w5.setCell ⟨P, 0, none⟩ v1).setCell ⟨Q, 0, none⟩ (.int .i64 0)).heap.size := by rw [World.size_setCell, World.size_setCell]
    refine ⟨by rw [← hsz]; exact hg.size, fun v' hv' => ?_⟩
    obtain rfl : v = v' := by rw [hP] at hv'; injection hv' with hv'; injection hv' with hv'; simpa using hv'
    refine ⟨⟨v1, hP3, hat⟩, fun i o hi hp hn => ?_⟩
    by_cases hiq : i = Q
    · subst hiq
      rw [hQ] at hi
      rw [hQ3, ← hi]
    · rw [Below.heap_setCell _ _ _ _ (fun e => hiq e), Below.heap_setCell _ _ _ _ (fun e => hp e)]
      exact (hg.block i (lt_of_block hi) (fun e => hn e.symm)).trans hi
  have k1 : OthersKept 5 (some P) w w5 := (OthersKept.refl _ _ w).grown hg (fun g hg1 => by
    rcases hO.2 with ⟨rfl, -⟩ | ⟨g', cap, cur, rfl, hg', hh, r⟩
    · simp [Value.ownBlock] at hg1
    · simp only [Value.ownBlock, Option.some.injEq] at hg1
      subst hg1
      exact ⟨_, _, hh⟩)
  have k2 := k1.setCell ⟨P, 0, none⟩ rfl v1
  intro i o hi hb ho
  have h2 := k2 i o hi hb ho
  by_cases hiq : i = Q
  · subst hiq
    rw [hQ] at hi
    rw [hQ3, ← hi]
  · rw [Below.heap_setCell _ _ _ _ (fun e => hiq e)]; exact h2
set_option maxHeartbeats 8000000 in
set_option maxRecDepth 100000 in
theorem put_calls {bs out z : List Int} {A : Option Addr} {n c base P Q : Nat} {w0 w : World} (hS : PutSt base P Q w out) (hB : Below base w0 w) (hbs : base ≤ w.heap.size) (hr : Kd.C (Kd.int .u8) w A bs.length bs) (hn : bs.length = n) (hc : n ≤ c)
    (hl : out.length + n ≤ 140737488355000) (hz : out ++ bs = z) :
    Calls Tryd.prog 46 #[.slice A n c, .int .i64 0, .pointer (some ⟨P, 0, none⟩), .pointer (some ⟨Q, 0, none⟩)] w fun e w' => e = .returned (.tuple #[]) ∧ PutSt base P Q w' z ∧ Below base w0 w' ∧ OthersKept 5 (some P) w w' ∧ Kept5 P w w' := by
  subst hn
  obtain ⟨hpq, hbp, hbq, v, hP, hQ, hO⟩ := hS
  have HZ := Aside0.mk hz
  have HR := Aside0.mk (Kd.R_of_own (enc := Value.int .u8) (h1 := fun _ => rfl) (ok := fun _ => True) hO (fun _ _ => trivial))
  have HO := Aside0.mk hO
  have HB := Aside0.mk hB
  have HC := Aside0.mk hr
  have HP := Aside0.mk hP
  have HQ := Aside0.mk hQ
  have HL := Aside0.mk hl
  have HBS := Aside0.mk hbs
  have cP := cell_of_one hP
  clear hz hO hB hr hP hQ hl hc hbs
  go_enter Tryd.func46, Tryd.ntmps46
  go_wp2_with (at_builtin; refine Kd.R_append_rows (Kd.int .u8) (w0 := w0) base rfl _ _ 22 5 (.int .u8 0) 1 rfl Tryd.underlying22 infoB rfl (by decide) (by omega) v out bs A bs.length c (fun _ => True) (fun _ => False) rfl rfl HR.out HC.out (fun _ _ h => h) (fun _ h => h.elim) (fun _ _ => trivial) HB.out HBS.out (by have := HL.out; omega) ?_; intro v1 w5 ho hb hg hat; rw [HZ.out] at ho; obtain ⟨A1, c1, rfl, hl1, hC1⟩ := Kd.R_reads ho; have HO1 := Aside0.mk ho; have HB1 := Aside0.mk hb; have HG := Aside0.mk hg; have HAT := Aside0.mk hat; have hP1 := (hg.block P (lt_of_block HP.out) (fun h => own_ne HO.out HP.out (by decide) h.symm)).trans HP.out; have hQ1 := (hg.block Q (lt_of_block HQ.out) (fun h => own_ne HO.out HQ.out (by decide) h.symm)).trans HQ.out; have HP1 := Aside0.mk hP1; have HQ1 := Aside0.mk hQ1; have cP1 := cell_of_one hP1; have fP1 := free_of_one hP1; have cQ1 := cell_of_one hQ1; have fQ1 := free_of_one hQ1; clear ho hb hg hat hP1 hQ1 hl1 hC1)
  go_end0
  exact ⟨rfl, put_end hpq hbp hbq HO.out HP1.out HQ.out HQ1.out (Kd.own_of_R HO1.out) HB1.out HG.out HP.out HAT.out⟩
/-- numbers that U takes -/
def Nums (ns : List Int) : Prop := ∀ n ∈ ns, 0 ≤ n ∧ n ≤ 9007199254740991
def ubs (ns : List Int) : List Int := ns.flatMap fun n => ub n.toNat
theorem PutSt.kept {base P Q : Nat} {w w1 : World} {out : List Int} (h : PutSt base P Q w out) (hb : Below w.heap.size w w1) : PutSt base P Q w1 out := by
  obtain ⟨hpq, hbp, hbq, v, hP, hQ, hO⟩ := h
  exact ⟨hpq, hbp, hbq, v, (hb.block P (lt_of_block hP)).trans hP, (hb.block Q (lt_of_block hQ)).trans hQ, pw_own_below hO hb⟩
theorem kept_below {P : Nat} {w w1 w2 : World} (h : OthersKept 5 (some P) w w1) (hb : Below w1.heap.size w1 w2) : OthersKept 5 (some P) w w2 := by
  intro i o hi hp ho
  have h1 := h i o hi hp ho
  exact (hb.block i (lt_of_block h1)).trans h1
theorem U_calls (n : Int) (w : World) (h0 : 0 ≤ n) (h1 : n ≤ 9007199254740991) :
    Calls Tryd.prog 48 #[.int .i64 n] w fun e w' => ∃ (A : Option Addr) (c : Nat), e = .returned (.tuple #[.slice A (ub n.toNat).length c, .int .i64 0]) ∧ (ub n.toNat).length ≤ c ∧ Kd.C (Kd.int .u8) w' A (ub n.toNat).length (ub n.toNat) ∧ Below w.heap.size w w' := by
  refine (leb_U.calls 10 n _ _ w (U_f 10 n (by omega) h0 h1)).mono ?_
  rintro e w' ⟨v, rfl, ho, hb⟩
  obtain ⟨A, c, rfl, hl, hC⟩ := Kd.R_reads ho
  exact ⟨A, c, rfl, hl, hC, hb⟩
theorem ubs_snoc (ns : List Int) (k : Nat) (h : k < ns.length) : ubs (ns.take (k + 1)) = ubs (ns.take k) ++ ub (ns[k]).toNat := by
  unfold ubs; rw [List.take_succ_eq_append_getElem h, List.flatMap_append]; simp
theorem ubs_len : ∀ ns : List Int, Nums ns → (ubs ns).length ≤ 8 * ns.length
  | [], _ => by simp [ubs]
  | n :: t, h => by
    have h1 := ubs_len t (fun m hm => h m (List.mem_cons_of_mem _ hm))
    have h2 := ub_len8 n.toNat (by have := h n List.mem_cons_self; omega)
    unfold ubs at h1 ⊢
    rw [List.flatMap_cons, List.length_append, List.length_cons]; omega
set_option maxHeartbeats 8000000 in
set_option maxRecDepth 100000 in
theorem nums_calls {ns out z : List Int} {n c base P Q Z G : Nat} {C : Array Value} {w0 w : World} (hS : PutSt base P Q w out) (hB : Below base w0 w) (hbs : base ≤ w.heap.size)
    (hZ : w.heap[Z]? = some (.cells #[.func (.func 46) #[] #[.pointer (some ⟨P, 0, none⟩), .pointer (some ⟨Q, 0, none⟩)]] 68 (0, 0))) (hZP : Z ≠ P)
    (hG : w.heap[G]? = some (.cells C 3 (0, 0))) (hGP : G ≠ P) (hC : C.toList = nums .i64 ns) (hn : ns.length = n) (hN : Nums ns) (hm : n ≤ 1000) (hl : out.length ≤ 140737488300000) (hz : out ++ ubs ns = z) :
    Calls Tryd.prog 47 #[.slice (some ⟨G, 0, none⟩) n c, .pointer (some ⟨Z, 0, none⟩)] w fun e w' => e = .returned (.tuple #[]) ∧ PutSt base P Q w' z ∧ Below base w0 w' ∧ OthersKept 5 (some P) w w' ∧ Kept5 P w w' := by
  subst hn
  have HS := Aside0.mk hS
  have HB := Aside0.mk hB
  have HBS := Aside0.mk hbs
  have HZ := Aside0.mk hZ
  have HG := Aside0.mk hG
  have HC := Aside0.mk hC
  have HN := Aside0.mk hN
  have HL := Aside0.mk hl
  have HE := Aside0.mk hz
  have HK := Aside0.mk (OthersKept.refl 5 (some P) w)
  have HJ := Aside0.mk (Kept5.below (P := P) (Below.refl w.heap.size w))
  have HS0 := Aside0.mk (show PutSt base P Q w (out ++ ubs (ns.take 0)) by rw [List.take_zero]; unfold ubs; rw [List.flatMap_nil, List.append_nil]; exact hS)
  clear hS hB hbs hZ hG hC hN hl hz HS
  go_enter Tryd.func47, Tryd.ntmps47
  go_wp2
  go_loopw [7] (fun i wr => ∃ k : Nat, i = .int .i64 (k : Int) ∧ k ≤ ns.length ∧ Aside0 (PutSt base P Q wr (out ++ ubs (ns.take k))) ∧ Aside0 (Below base w0 wr) ∧ Aside0 (OthersKept 5 (some P) w wr) ∧ Aside0 (Kept5 P w wr)) (fun i _ => ns.length - (RowKit.intOf i).toNat)
  case atStart => exact ⟨0, rfl, by omega, HS0, HB, HK, HJ⟩
  case round =>
    obtain ⟨k, rfl, hk, HS1, HB1, HK1, HJ1⟩ := hrel
    clear HS0 HB HK HJ
    by_cases hlt : k < ns.length
    · have hltz : decide ((k : Int) < (ns.length : Int)) = true := decide_eq_true (by omega)
      have hG1 := HK1.out G _ HG.out (fun h => hGP (Option.some.inj h)) (fun c fz h => by injection h with _ h _; exact absurd h (by decide))
      have hZ1 := HK1.out Z _ HZ.out (fun h => hZP (Option.some.inj h)) (fun c fz h => by injection h with _ h _; exact absurd h (by decide))
      have HZ1 := Aside0.mk hZ1
      have cG : wr.cell? ⟨G, k, none⟩ = some (.int .i64 ns[k]) := by
        rw [cell_of_row _ G k C _ _ hG1, ← Array.getElem?_toList, HC.out]; simp [nums, List.getElem?_eq_getElem hlt]
      have cZ := cell_of_one hZ1
      have hx := HN.out ns[k] (List.getElem_mem hlt)
      have HU := Aside0.mk (fun w1 => U_calls ns[k] w1 hx.1 hx.2)
      have HSN := Aside0.mk (ubs_snoc ns k hlt)
      have h8 := ubs_len (ns.take k) (fun m hm => HN.out m (List.mem_of_mem_take hm))
      have hu8 := ub_len8 ns[k].toNat (by omega)
      rw [List.length_take] at h8
      have HLN := Aside0.mk (show (out ++ ubs (ns.take k)).length + (ub ns[k].toNat).length ≤ 140737488355000 by rw [List.length_append]; have := HL.out; omega)
      clear h8 hu8 hx
      generalize ns[k] = x at cG HU HSN HLN
      have hm1 : ((k : Int) + 1) ≤ 1001 := by omega
      have HSd := Aside0.mk (HS1.out.kept (Below.drew (Below.refl _ _)))
      have HBd := Aside0.mk HB1.out.drew
      have HKd := Aside0.mk (kept_below HK1.out (Below.drew (Below.refl _ _)))
      have HJd := Aside0.mk (HJ1.out.trans (Kept5.below (Below.drew (Below.refl wr.heap.size wr))))
      have HZd := Aside0.mk (show wr.drew.heap[Z]? = _ from hZ1)
      have HBSd := Aside0.mk (show base ≤ wr.drew.heap.size from Nat.le_of_lt (Nat.lt_of_le_of_lt HS1.out.2.1 (lt_of_block HS1.out.2.2.2.choose_spec.1)))
      clear HS1 HB1 HK1 HJ1
      go_wp2_with fail
      go_region_with (first
        | (go_at_call 48; refine (HU.out _).mono ?_; rintro e w1 ⟨A1, c1, rfl, hl1, hC1, hb1⟩; have HL1 := Aside0.mk hl1; have HC1 := Aside0.mk hC1; have HS2 := Aside0.mk (HSd.out.kept hb1); have HB2 := Aside0.mk (below_then HBd.out HBSd.out hb1); have HK2 := Aside0.mk (kept_below HKd.out hb1); have HJ2 := Aside0.mk (HJd.out.trans (Kept5.below hb1)); have HBS2 := Aside0.mk (Nat.le_trans HBSd.out hb1.size); have cZ1 := cell_of_one ((hb1.block Z (lt_of_block HZd.out)).trans HZd.out); clear hl1 hC1 hb1)
        | (go_at_call 46; refine (put_calls HS2.out HB2.out HBS2.out HC1.out rfl HL1.out HLN.out (by rw [List.append_assoc, ← HSN.out])).mono ?_; rintro e w2 ⟨rfl, hS3, hB3, hK3, hJ3⟩; have HS3 := Aside0.mk hS3; have HB3 := Aside0.mk hB3; have HK3 := Aside0.mk (HK2.out.trans hK3); have HJ3 := Aside0.mk (HJ2.out.trans hJ3); clear hS3 hB3 hK3 hJ3))
      all_goals go_wp2
      all_goals go_roundw
      all_goals first | exact ⟨k + 1, by go_num, by omega, HS3, HB3, HK3, HJ3⟩ | (simp [RowKit.intOf]; omega)
    · have hltz : decide ((k : Int) < (ns.length : Int)) = false := decide_eq_false (by omega)
      have HF := Aside0.mk (show PutSt base P Q wr z by have := HS1.out; rw [List.take_of_length_le (by omega), HE.out] at this; exact this)
      go_wp2
      go_end0
      exact ⟨rfl, HF.out, HB1.out, HK1.out, HJ1.out⟩
end Go.Proofs.YtkhigagkgpfpfaaDoor.Ext

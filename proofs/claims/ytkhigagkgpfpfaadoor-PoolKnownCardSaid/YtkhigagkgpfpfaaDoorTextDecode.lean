/- The Go function text.Decode, walked: all the characters that can be taken off bytes, and where none can. -/
import Derived.Test.YtkhigagkgpfpfaaDoorTextTake2
import Derived.Laws.Cover4
set_option linter.unusedVariables false
set_option linter.unusedSimpArgs false
namespace Go.Proofs.YtkhigagkgpfpfaaDoor.Ext
open Go.RowKit Go.Lib Go.Proofs.YtkhigagkgpfpfaaDoorW.PrintWords Go.Proofs.YtkhigagkgpfpfaaDoorW.PrintLast Go.Proofs.YtkhigagkgpfpfaaDoorW.PrintMore
attribute [local go_sem] max2_int min2_int max_two min_two max_three min_three max_four min_four

theorem infoR : (Tryd.prog.info? 21).map (fun i => (i.zero, i.size, i.bytes)) = some (some (.int .i32 0), 1, 4) := by kernel_rfl
/-- what Decode answers -/
def decOut (l : List Int) : ByteArray × Int × Int := if (dec l).2 = [] then (runesBytes (dec l).1, 0, 0) else (⟨#[]⟩, (l.length : Int) - ((dec l).2.length : Int), 20)
/-- what holds at each round: so many characters are taken off, so many bytes -/
def DecInv (l : List Int) (cs : List Int) (at_ : Nat) : Prop := at_ ≤ l.length ∧ cs.length ≤ at_ ∧ (dec l).1 = cs ++ (dec (l.drop at_)).1 ∧ (dec l).2 = (dec (l.drop at_)).2 ∧ l.length - at_ ≤ l.length
theorem DecInv.start (l : List Int) : DecInv l [] 0 := ⟨by omega, by simp, by simp, by simp, by omega⟩
theorem dec_stuck {b : List Int} (h : (takeL b).2 = 0) : dec b = ([], b) := by
  unfold dec
  cases b.length with
  | zero => rfl
  | succ k => simp only [decGo]; rw [if_pos h]
theorem dec_go {b : List Int} (hb : Bytes b) (h : (takeL b).2 ≠ 0) : dec b = ((takeL b).1 :: (dec (b.drop (takeL b).2.toNat)).1, (dec (b.drop (takeL b).2.toNat)).2) := by
  obtain ⟨hv, e, el⟩ := takeL_inv b hb h
  obtain ⟨h1, h2, h3⟩ := dec_inv (b.drop (takeL b).2.toNat) (hb.drop _)
  have e2 : b = muts ((takeL b).1 :: (dec (b.drop (takeL b).2.toNat)).1) ++ (dec (b.drop (takeL b).2.toNat)).2 := by
    simp only [muts, List.append_assoc]; rw [← h1]; exact e
  conv => lhs; rw [e2]
  exact dec_eq _ _ (fun c hc => by rcases List.mem_cons.1 hc with rfl | hc; exact hv; exact h2 c hc) h3
theorem DecInv.step {l : List Int} {cs : List Int} {n : Nat} (h : DecInv l cs n) (hb : Bytes l) (hs : (takeL (l.drop n)).2 ≠ 0) : DecInv l (cs ++ [(takeL (l.drop n)).1]) (n + (takeL (l.drop n)).2.toNat) := by
  obtain ⟨h1, h2, h3, h4, h5⟩ := h
  have hl := takeL_len (l.drop n) (hb.drop n)
  have hg := dec_go (hb.drop n) hs
  rw [List.length_drop] at hl
  refine ⟨by omega, by simp; omega, ?_, ?_, by omega⟩
  · rw [h3, hg, List.drop_drop, List.append_assoc]; rfl
  · rw [h4, hg, List.drop_drop]
theorem DecInv.stop {l : List Int} {cs : List Int} {n : Nat} (h : DecInv l cs n) (hn : n < l.length) (hs : (takeL (l.drop n)).2 = 0) : decOut l = (⟨#[]⟩, (n : Int), 20) := by
  obtain ⟨h1, h2, h3, h4, h5⟩ := h
  rw [dec_stuck hs] at h4
  have hne : (dec l).2 ≠ [] := by
    intro e; have := congrArg List.length (h4.symm.trans e); rw [List.length_drop] at this; simp at this; omega
  unfold decOut
  rw [if_neg hne, h4, List.length_drop]
  have : (l.length : Int) - ((l.length - n : Nat) : Int) = (n : Int) := by omega
  rw [this]
theorem DecInv.done {l : List Int} {cs : List Int} {n : Nat} (h : DecInv l cs n) (hn : ¬ n < l.length) : decOut l = (runesBytes cs, 0, 0) := by
  obtain ⟨h1, h2, h3, h4, h5⟩ := h
  have e : l.drop n = [] := List.drop_eq_nil_of_le (by omega)
  rw [e] at h3 h4
  have e0 : dec [] = ([], []) := rfl
  rw [e0] at h3 h4
  unfold decOut
  rw [if_pos h4, h3, List.append_nil]
/-- the characters' row, as 'string' reads it -/
theorem own_runes {w : World} {base n : Nat} {v : Value} {xs : List Int} (h : w.ownsRow base 21 1 v n (nums .i32 xs)) : (convert 133 9 v).run Tryd.prog w = .ok (.string (runesBytes xs)) w := by
  have hl : xs.length = n := by have := h.1; simp [nums] at this; exact this
  rcases h.2 with ⟨rfl, rfl⟩ | ⟨g, cap, cur, rfl, _⟩
  · obtain rfl : xs = [] := List.eq_nil_of_length_eq_zero hl
    exact run_convert_runes_nil w 133 9 21 0 0 Tryd.underlying133 Tryd.underlying21 Tryd.underlying9
  · have := run_convert_runes (P := Tryd.prog) w 133 9 21 ⟨g, 0, none⟩ n cap xs (by omega) Tryd.underlying133 Tryd.underlying21 Tryd.underlying9 (fun j hj => by
      have hc := h.cells (g := g) rfl j (.int .i32 (xs.getD j 0)) (by simp [nums, List.getElem?_eq_getElem hj, List.getD_eq_getElem?_getD])
      exact hc)
    rwa [List.take_of_length_le (by omega)] at this
def RB (w : World) (base : Nat) (v : Value) (xs : List Int) : Prop := w.ownsRow base 21 1 v xs.length (nums .i32 xs)
theorem RB.alloc {w : World} {base : Nat} {v : Value} {xs : List Int} (h : RB w base v xs) (o : Obj) : (w.alloc o).ownsRow base 21 1 v xs.length (nums .i32 xs) := World.ownsRow.alloc h o
theorem take_eq {l : List Int} {A : Option Addr} {c n : Nat} {w : World} (hby : Bytes l) (hr : Kd.C (Kd.int .u8) w A l.length l) (hn : l.length = n) (hc : n ≤ c) :
    Calls Tryd.prog 113 #[.slice A n c] w fun e w' => e = .returned (.tuple #[.int .i32 (takeL l).1, .int .i64 (takeL l).2]) ∧ Below w.heap.size w w' := by
  subst hn
  exact (take_calls l A c w hby hr hc).mono fun e w' h => h
set_option maxHeartbeats 8000000 in
set_option maxRecDepth 100000 in
theorem decode_calls (l : List Int) (A : Option Addr) (c : Nat) (w : World) (hby : Bytes l) (hr : Kd.C (Kd.int .u8) w A l.length l) (hc : l.length ≤ c) (hm : l.length ≤ 35184372088831) :
    Calls Tryd.prog 111 #[.slice A l.length c] w fun e w' => e = .returned (.tuple #[.string (decOut l).1, .int .i64 (decOut l).2.1, .int .i64 (decOut l).2.2]) ∧ Below w.heap.size w w' := by
  have HR := Aside0.mk hr
  have HBY := Aside0.mk hby
  have HL := Aside0.mk hc
  have HM := Aside0.mk hm
  clear hr hby hc
  obtain ⟨R1, R2, R3, hR⟩ : ∃ R1 R2 R3, decOut l = (R1, R2, R3) := ⟨_, _, _, rfl⟩
  rw [hR]
  have HRW := Aside0.mk hR
  clear hR
  go_enter Tryd.func111, Tryd.ntmps111
  go_wp2
  go_loopw [3, 5] (fun a v wr => ∃ (n : Nat) (cs : List Int) (vv : Value), a = .int .i64 (n : Int) ∧ v = vv ∧ Aside0 (RB wr w.heap.size vv cs) ∧ Aside0 (DecInv l cs n) ∧ Aside0 (Below w.heap.size w wr)) (fun a _ _ => l.length - (intOf a).toNat)
  case atStart => exact ⟨0, [], _, rfl, rfl, ⟨own_nil _ _ _ _⟩, ⟨DecInv.start l⟩, ⟨Below.refl _ _⟩⟩
  case round =>
    obtain ⟨n, cs, v, rfl, hv, HO, HI, HB⟩ := hrel
    have hv' := hv.symm
    subst hv'
    have hn := HI.out.1
    have hcl := HI.out.2.1
    by_cases hlt : n < l.length
    · have hltz : decide ((n : Int) < (l.length : Int)) = true := decide_eq_true (by omega)
      obtain ⟨A', hcut, hC'⟩ := slice_from l A c n hn HL.out
      have HT := Aside0.mk (fun (w1 : World) (hb : Below w.heap.size w w1) => take_eq (w := w1) (c := c - n) (HBY.out.drop n) (hC' w1 (Kd.C_below HR.out hb)) (List.length_drop ..) (by have := HL.out; omega))
      clear hC'
      have htl := takeL_len (l.drop n) (HBY.out.drop n)
      rw [List.length_drop] at htl
      have HS := Aside0.mk (fun hs => HI.out.step (HBY.out) hs)
      have HX := Aside0.mk (fun hs => HI.out.stop hlt hs)
      generalize takeL (l.drop n) = ts at *
      obtain ⟨ch, sz⟩ := ts
      simp only at HS HX HT htl
      obtain ⟨s, rfl⟩ : ∃ s : Nat, sz = (s : Int) := ⟨sz.toNat, by omega⟩
      by_cases hs : s = 0
      · subst hs
        have e := HX.out rfl
        rw [HRW.out] at e
        obtain ⟨rfl, rfl, rfl⟩ : R1 = ⟨#[]⟩ ∧ R2 = (n : Int) ∧ R3 = 20 := by simpa using e
        clear e HX HS
        go_wp2_with fail
        refine (HT.out _ HB.out).mono ?_
        rintro e w1 ⟨rfl, hb⟩
        have HB1 := Aside0.mk (below_step' HB.out hb); clear hb
        go_wp2
        go_ret3
        exact ⟨rfl, HB1.out⟩
      · have hs0 : ((s : Int) == 0) = false := beq_eq_false_iff_ne.2 (by omega)
        have HI2 := Aside0.mk (HS.out (by omega))
        rw [Int.toNat_natCast] at HI2
        clear HX HS
        go_wp2_with fail
        refine (HT.out _ HB.out).mono ?_
        rintro e w1 ⟨rfl, hb⟩
        have HO1 := Aside0.mk (show RB w1 w.heap.size v cs from pw_own_below HO.out hb)
        have HB1 := Aside0.mk (below_step' HB.out hb); clear hb
        go_wp2_with (at_builtin; refine print_append_num (w0 := w) w.heap.size rfl _ _ 133 21 .i32 4 rfl Tryd.underlying133 infoR (by decide) v cs ch rfl rfl HO1.out HB1.out (below_size HB1.out) (by have := HM.out; omega) ?_; intro v1 w5 ho hb hg hat; have HO2 := Aside0.mk (show RB w5 w.heap.size v1 (cs ++ [ch]) from ho); have HB2 := Aside0.mk hb; clear ho hb hg hat)
        go_roundw
        case rel => exact ⟨n + s, cs ++ [ch], _, by go_num, rfl, HO2, HI2, HB2⟩
        case measure => simp [intOf]; omega
    · have hltz : decide ((n : Int) < (l.length : Int)) = false := decide_eq_false (by omega)
      have e := HI.out.done hlt
      rw [HRW.out] at e
      obtain ⟨rfl, rfl, rfl⟩ : R1 = runesBytes cs ∧ R2 = 0 ∧ R3 = 0 := by simpa using e
      have hcv := own_runes HO.out
      clear e
      go_wp2
      go_ret3
      exact ⟨rfl, HB.out⟩
end Go.Proofs.YtkhigagkgpfpfaaDoor.Ext

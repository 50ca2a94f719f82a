/- The Go function warpbeamref02.Decode, walked: it answers as package text does. -/
import Derived.Test.YtkhigagkgpfpfaaDoorTextRefDec
set_option linter.unusedVariables false
set_option linter.unusedSimpArgs false
namespace Go.Proofs.YtkhigagkgpfpfaaDoor.Ext
open Go.RowKit Go.Lib Go.Proofs.YtkhigagkgpfpfaaDoorW.PrintWords Go.Proofs.YtkhigagkgpfpfaaDoorW.PrintLast Go.Proofs.YtkhigagkgpfpfaaDoorW.PrintMore Go.Proofs.YtkhigagkgpfpfaaDoor.PLeb
attribute [local go_sem] max2_int min2_int max_two min_two max_three min_three max_four min_four

def UZ (w : World) (base : Nat) (v : Value) (cs : List Int) : Prop := w.ownsRow base 5 1 v (uz cs).length (nums .u8 (uz cs))
theorem UZ.str {w : World} {base : Nat} {v : Value} {cs : List Int} (h : UZ w base v cs) : (convert 22 9 v).run Tryd.prog w = .ok (.string (runesBytes cs)) w := by
  rw [← str_uz]
  exact own_string (P := Tryd.prog) Tryd.underlying22 Tryd.underlying5 Tryd.underlying9 h
theorem UZ.below {w w1 : World} {base : Nat} {v : Value} {cs : List Int} (h : UZ w base v cs) (hb : Below w.heap.size w w1) : UZ w1 base v cs := pw_own_below h hb
theorem UZ.put {v : Value} {cs : List Int} {c : Int} {base : Nat} {w : World} (hO : UZ w base v cs) (hb : base ≤ w.heap.size) (hl : (uz cs).length ≤ 140737488355000) (h0 : 0 ≤ c) (h1 : c ≤ 1114111) :
    Calls Tryd.prog 80 #[v, .int .i32 c] w fun e w' => ∃ v', e = .returned v' ∧ UZ w' base v' (cs ++ [c]) ∧ Below base w w' := by
  refine (aprune_calls v (uz cs) c base w hO hb hl h0 h1).mono ?_
  rintro e w' ⟨v', rfl, ho, hb⟩
  refine ⟨v', rfl, ?_, hb⟩
  unfold UZ
  rw [uz_append]
  simpa [uz] using ho
set_option maxHeartbeats 8000000 in
set_option maxRecDepth 100000 in
theorem rdecode_calls (l : List Int) (A : Option Addr) (c : Nat) (w : World) (hby : Bytes l) (hr : Kd.C (Kd.int .u8) w A l.length l) (hc : l.length ≤ c) (hm : l.length ≤ 35184372088000) :
    Calls Tryd.prog 69 #[.slice A l.length c] w fun e w' => e = .returned (.tuple #[.string (decOut l).1, .int .i64 (decOut l).2.1, .int .i64 (decOut l).2.2]) ∧ Below w.heap.size w w' := by
  have HR := Aside0.mk hr
  have HBY := Aside0.mk hby
  have HL := Aside0.mk hc
  have HM := Aside0.mk hm
  have hmz : (l.length : Int) ≤ 4611686018427387904 := by omega
  clear hr hby hc
  obtain ⟨R1, R2, R3, hR⟩ : ∃ R1 R2 R3, decOut l = (R1, R2, R3) := ⟨_, _, _, rfl⟩
  rw [hR]
  have HRW := Aside0.mk hR
  clear hR
  go_enter Tryd.func69, Tryd.ntmps69
  go_wp2
  go_loopw [5, 6] (fun v a wr => ∃ (n : Nat) (cs : List Int) (vv : Value), a = .int .i64 (n : Int) ∧ v = vv ∧ Aside0 (UZ wr w.heap.size vv cs) ∧ Aside0 (DecInv l cs n) ∧ Aside0 (Below w.heap.size w wr)) (fun _ a _ => l.length - (RowKit.intOf a).toNat)
  case atStart => exact ⟨0, [], _, rfl, rfl, ⟨own_nil _ _ _ _⟩, ⟨DecInv.start l⟩, ⟨Below.refl _ _⟩⟩
  case round =>
    obtain ⟨n, cs, v, rfl, hv, HO, HI, HB⟩ := hrel
    have hv' := hv.symm
    subst hv'
    have hn := HI.out.1
    have hcl := HI.out.2.1
    by_cases hlt : n < l.length
    · have hltz : decide ((n : Int) < (l.length : Int)) = true := decide_eq_true (by omega)
      have HT := Aside0.mk (fun (w1 : World) (hb : Below w.heap.size w w1) => next_eq (c := c) HBY.out (Kd.C_below HR.out hb) hmz hn)
      have htl := takeL_len (l.drop n) (HBY.out.drop n)
      rw [List.length_drop] at htl
      have hvr : (takeL (l.drop n)).2 ≠ 0 → 0 ≤ (takeL (l.drop n)).1 ∧ (takeL (l.drop n)).1 ≤ 1114111 := fun h => by
        have := (takeL_inv (l.drop n) (HBY.out.drop n) h).1; unfold VR at this; omega
      have HS := Aside0.mk (fun hs => HI.out.step (HBY.out) hs)
      have HX := Aside0.mk (fun hs => HI.out.stop hlt hs)
      generalize takeL (l.drop n) = ts at *
      obtain ⟨ch, sz⟩ := ts
      simp only at HS HX HT htl hvr
      obtain ⟨s, rfl⟩ : ∃ s : Nat, sz = (s : Int) := ⟨sz.toNat, by omega⟩
      by_cases hs : s = 0
      · subst hs
        have e := HX.out rfl
        rw [HRW.out] at e
        obtain ⟨rfl, rfl, rfl⟩ : R1 = ⟨#[]⟩ ∧ R2 = (n : Int) ∧ R3 = 20 := by simpa using e
        clear e HX HS hvr
        go_wp2_with fail
        refine (HT.out _ HB.out).mono ?_
        rintro e w1 ⟨rfl, hb⟩
        have HB1 := Aside0.mk (below_step' HB.out hb); clear hb
        go_wp2
        go_ret3
        exact ⟨rfl, HB1.out⟩
      · have hs0 : ((s : Int) == 0) = false := beq_eq_false_iff_ne.2 (by omega)
        have HI2 := Aside0.mk (HS.out (by omega))
        rw [Int.toNat_natCast] at HI2
        obtain ⟨c0, c1⟩ := hvr (by omega)
        have HUL := Aside0.mk (show (uz cs).length ≤ 140737488355000 by have := uz_len cs; have := HM.out; omega)
        clear HX HS hvr
        go_wp2_with fail
        refine (HT.out _ HB.out).mono ?_
        rintro e w1 ⟨rfl, hb⟩
        have HO1 := Aside0.mk (HO.out.below hb)
        have HB1 := Aside0.mk (below_step' HB.out hb); clear hb
        go_wp2_with fail
        refine (HO1.out.put (below_size HB1.out) HUL.out c0 c1).mono ?_
        rintro e w2 ⟨v2, rfl, ho, hb⟩
        have HO2 := Aside0.mk ho
        have HB2 := Aside0.mk (HB1.out.trans hb)
        clear ho hb
        go_wp2
        go_roundw
        case rel => exact ⟨n + s, cs ++ [ch], _, by go_num, rfl, HO2, HI2, HB2⟩
        case measure => simp [RowKit.intOf]; omega
    · have hltz : decide ((n : Int) < (l.length : Int)) = false := decide_eq_false (by omega)
      have e := HI.out.done hlt
      rw [HRW.out] at e
      obtain ⟨rfl, rfl, rfl⟩ : R1 = runesBytes cs ∧ R2 = 0 ∧ R3 = 0 := by simpa using e
      have hcv := HO.out.str
      clear e
      go_wp2
      go_ret3
      exact ⟨rfl, HB.out⟩
theorem rdecode_eq {l : List Int} {A : Option Addr} {c n : Nat} {w : World} {R1 : ByteArray} {R2 R3 : Int} (hd : decOut l = (R1, R2, R3)) (hby : Bytes l) (hr : Kd.C (Kd.int .u8) w A l.length l) (hn : l.length = n) (hc : n ≤ c) (hm : n ≤ 35184372088000) :
    Calls Tryd.prog 69 #[.slice A n c] w fun e w' => e = .returned (.tuple #[.string R1, .int .i64 R2, .int .i64 R3]) ∧ Below w.heap.size w w' := by
  subst hn
  have := rdecode_calls l A c w hby hr hc hm
  rwa [hd] at this
end Go.Proofs.YtkhigagkgpfpfaaDoor.Ext

/- The Go function text.take, walked: a character taken off the front of bytes. -/
import Derived.Test.YtkhigagkgpfpfaaDoorTextTake3
set_option linter.unusedVariables false
set_option linter.unusedSimpArgs false
namespace Go.Proofs.YtkhigagkgpfpfaaDoor.Ext
open Go.RowKit Go.Lib Go.Proofs.YtkhigagkgpfpfaaDoorW.PrintWords Go.Proofs.YtkhigagkgpfpfaaDoorW.PrintLast Go.Proofs.YtkhigagkgpfpfaaDoorW.PrintMore
attribute [local go_sem] max2_int min2_int max_two min_two max_three min_three max_four min_four

theorem unit_eq {l : List Int} {A : Option Addr} {c n : Nat} {w : World} {x s : Int} (hu : unitL l = (x, s)) (hby : Bytes l) (hr : Kd.C (Kd.int .u8) w A l.length l) (hn : l.length = n) (hc : n ≤ c) :
    Calls Tryd.prog 114 #[.slice A n c] w fun e w' => e = .returned (.tuple #[.int .i32 x, .int .i64 s]) ∧ Below w.heap.size w w' := by
  subst hn
  refine (unit_calls l A c w hby hr hc).mono fun e w' h => ?_
  unfold UnitPost at h
  rwa [hu] at h
def TakePost (w : World) (l : List Int) (e : Ending) (w' : World) : Prop := e = .returned (.tuple #[.int .i32 (takeL l).1, .int .i64 (takeL l).2]) ∧ Below w.heap.size w w'
theorem TakePost.mk' {w : World} {l : List Int} {w' : World} {a b : Int} (h : takeL l = (a, b)) (hb : Below w.heap.size w w') : TakePost w l (.returned (.tuple #[.int .i32 a, .int .i64 b])) w' := by
  unfold TakePost; rw [h]; exact ⟨rfl, hb⟩
theorem below_step' {w w1 w2 : World} (h : Below w.heap.size w w1) (k : Below w1.heap.size w1 w2) : Below w.heap.size w w2 := below_then h h.size k
theorem infoB : (Tryd.prog.info? 5).map (fun i => (i.zero, i.size, i.bytes)) = some (some (.int .u8 0), 1, 1) := by kernel_rfl
/-- what stands from a place on, read -/
theorem slice_from (l : List Int) (A : Option Addr) (c j : Nat) (hj : j ≤ l.length) (hc : l.length ≤ c) :
    ∃ A' : Option Addr, (∀ W : World, (Instr.slice 22 (.slice A l.length c) (some (.int .i64 (j : Int))) none none).run Tryd.prog W = .ok (.slice A' (l.length - j) (c - j)) W) ∧
      ∀ w : World, Kd.C (Kd.int .u8) w A l.length l → Kd.C (Kd.int .u8) w A' (l.drop j).length (l.drop j) := by
  obtain ⟨i0, hi0, hz0, hz1, hz2⟩ := info_parts infoB
  have h := cut_from (P := Tryd.prog) 22 5 .i64 Tryd.underlying22 hi0 1 hz1 A l.length c (j : Int) (by omega) (by omega)
  rw [Int.toNat_natCast] at h
  exact ⟨_, h, fun w hC => Kd.C_drop hC hj hc⟩
/-- what stands up to a place, read -/
theorem slice_to (l : List Int) (A : Option Addr) (c j : Nat) (hj : j ≤ l.length) (hc : l.length ≤ c) :
    ∀ W : World, (Instr.slice 22 (.slice A l.length c) none (some (.int .i64 (j : Int))) none).run Tryd.prog W = .ok (.slice A j c) W := by
  obtain ⟨i0, hi0, hz0, hz1, hz2⟩ := info_parts infoB
  exact cut_to (P := Tryd.prog) 22 5 .i64 Tryd.underlying22 hi0 A l.length c (j : Int) (by omega) (by omega) hc
set_option maxHeartbeats 8000000 in
set_option maxRecDepth 100000 in
theorem take_calls (l : List Int) (A : Option Addr) (c : Nat) (w : World) (hby : Bytes l) (hr : Kd.C (Kd.int .u8) w A l.length l) (hc : l.length ≤ c) :
    Calls Tryd.prog 113 #[.slice A l.length c] w (TakePost w l) := by
  have hs := unitL_size l
  have hl := unitL_len l
  have hr1 := unitL_range l hby
  obtain ⟨x, s, hu⟩ : ∃ x s, unitL l = (x, s) := ⟨_, _, rfl⟩
  have HC := Aside0.mk (unit_eq hu hby hr rfl hc)
  have ht : takeL l = if s < 3 ∨ x < 55296 ∨ x > 57343 then (x, s) else if x ≥ 56320 then (0, 0)
      else if (unitL (l.drop 3)).2 < 3 ∨ (unitL (l.drop 3)).1 < 56320 ∨ (unitL (l.drop 3)).1 > 57343 then (0, 0)
      else (65536 + (x - 55296) * 1024 + (unitL (l.drop 3)).1 - 56320, 6) := by
    unfold takeL; rw [hu]
  rw [hu] at hs hl hr1
  simp only at hs hl hr1
  have HU := Aside0.mk hu
  clear hu
  by_cases k1 : s < 3 ∨ x < 55296 ∨ x > 57343
  · rw [if_pos k1] at ht
    have HT := Aside0.mk ht
    clear ht
    by_cases j1 : s < 3
    · have d1 : decide (s < 3) = true := decide_eq_true j1
      clear j1 k1 hs hl hr1 hr hby
      go_enter Tryd.func113, Tryd.ntmps113
      go_wp2_with (go_at_call 114; refine HC.out.mono ?_; rintro e w1 ⟨rfl, hb⟩)
      go_ret2
      exact TakePost.mk' HT.out hb
    · have d1 : decide (s < 3) = false := decide_eq_false j1
      by_cases j2 : x < 55296
      · have d2 : decide (x < 55296) = true := decide_eq_true j2
        clear j1 j2 k1 hs hl hr1 hr hby
        go_enter Tryd.func113, Tryd.ntmps113
        go_wp2_with (go_at_call 114; refine HC.out.mono ?_; rintro e w1 ⟨rfl, hb⟩)
        go_ret2
        exact TakePost.mk' HT.out hb
      · have d2 : decide (x < 55296) = false := decide_eq_false j2
        have d3 : decide (57343 < x) = true := decide_eq_true (by omega)
        clear j1 j2 k1 hs hl hr1 hr hby
        go_enter Tryd.func113, Tryd.ntmps113
        go_wp2_with (go_at_call 114; refine HC.out.mono ?_; rintro e w1 ⟨rfl, hb⟩)
        go_ret2
        exact TakePost.mk' HT.out hb
  · rw [if_neg k1] at ht
    have d1 : decide (s < 3) = false := decide_eq_false (by omega)
    have d2 : decide (x < 55296) = false := decide_eq_false (by omega)
    have d3 : decide (57343 < x) = false := decide_eq_false (by omega)
    by_cases k2 : x ≥ 56320
    · have d4 : decide (56320 ≤ x) = true := decide_eq_true k2
      rw [if_pos k2] at ht
      have HT := Aside0.mk ht
      clear ht k1 k2 hs hl hr1 hr hby
      go_enter Tryd.func113, Tryd.ntmps113
      go_wp2_with (go_at_call 114; refine HC.out.mono ?_; rintro e w1 ⟨rfl, hb⟩)
      go_ret2
      exact TakePost.mk' HT.out hb
    · have d4 : decide (56320 ≤ x) = false := decide_eq_false k2
      rw [if_neg k2] at ht
      obtain rfl : s = 3 := by omega
      obtain ⟨y, t, hv⟩ : ∃ y t, unitL (l.drop 3) = (y, t) := ⟨_, _, rfl⟩
      have hs2 := unitL_size (l.drop 3)
      have hl2 := unitL_len (l.drop 3)
      have hr2 := unitL_range (l.drop 3) (hby.drop 3)
      rw [hv] at ht hs2 hl2 hr2
      simp only at ht hs2 hl2 hr2
      obtain ⟨A', hcut, hC'⟩ := slice_from l A c 3 (by omega) hc
      have hcut3 : ∀ W, (Instr.slice 22 (.slice A l.length c) (some (.int .i64 3)) none none).run Tryd.prog W = .ok (.slice A' (l.length - 3) (c - 3)) W := hcut
      have HD := Aside0.mk (fun w1 (hb : Below w.heap.size w w1) => unit_eq hv (hby.drop 3) (hC' w1 (Kd.C_below hr hb)) (List.length_drop ..) (show l.length - 3 ≤ c - 3 by omega))
      clear hcut hC' hv
      by_cases k3 : t < 3 ∨ y < 56320 ∨ y > 57343
      · rw [if_pos k3] at ht
        have HT := Aside0.mk ht
        clear ht
        by_cases j1 : t < 3
        · have d5 : decide (t < 3) = true := decide_eq_true j1
          clear j1 k1 k2 k3 hs hl hr1 hr hby hs2 hl2 hr2
          go_enter Tryd.func113, Tryd.ntmps113
          go_wp2_with fail
          refine HC.out.mono ?_
          rintro e w1 ⟨rfl, hb⟩
          have HB := Aside0.mk hb; clear hb
          go_wp2_with fail
          refine (HD.out _ HB.out).mono ?_
          rintro e w2 ⟨rfl, hb⟩
          have HB2 := Aside0.mk (below_step' HB.out hb); clear hb
          go_wp2
          go_ret2
          exact TakePost.mk' HT.out HB2.out
        · have d5 : decide (t < 3) = false := decide_eq_false j1
          by_cases j2 : y < 56320
          · have d6 : decide (y < 56320) = true := decide_eq_true j2
            clear j1 j2 k1 k2 k3 hs hl hr1 hr hby hs2 hl2 hr2
            go_enter Tryd.func113, Tryd.ntmps113
            go_wp2_with fail
            refine HC.out.mono ?_
            rintro e w1 ⟨rfl, hb⟩
            have HB := Aside0.mk hb; clear hb
            go_wp2_with fail
            refine (HD.out _ HB.out).mono ?_
            rintro e w2 ⟨rfl, hb⟩
            have HB2 := Aside0.mk (below_step' HB.out hb); clear hb
            go_wp2
            go_ret2
            exact TakePost.mk' HT.out HB2.out
          · have d6 : decide (y < 56320) = false := decide_eq_false j2
            have d7 : decide (57343 < y) = true := decide_eq_true (by omega)
            clear j1 j2 k1 k2 k3 hs hl hr1 hr hby hs2 hl2 hr2
            go_enter Tryd.func113, Tryd.ntmps113
            go_wp2_with fail
            refine HC.out.mono ?_
            rintro e w1 ⟨rfl, hb⟩
            have HB := Aside0.mk hb; clear hb
            go_wp2_with fail
            refine (HD.out _ HB.out).mono ?_
            rintro e w2 ⟨rfl, hb⟩
            have HB2 := Aside0.mk (below_step' HB.out hb); clear hb
            go_wp2
            go_ret2
            exact TakePost.mk' HT.out HB2.out
      · rw [if_neg k3] at ht
        obtain rfl : t = 3 := by omega
        have d6 : decide (y < 56320) = false := decide_eq_false (by omega)
        have d7 : decide (57343 < y) = false := decide_eq_false (by omega)
        have b1 : 55296 ≤ x ∧ x ≤ 57343 ∧ ¬ 56320 ≤ x := by omega
        obtain ⟨b1, b2, _⟩ := b1
        have b3 : x ≤ 56319 := by omega
        have b4 : 56320 ≤ y := by omega
        have b5 : y ≤ 57343 := by omega
        have HT := Aside0.mk ht
        clear ht k1 k2 k3 hs hl hr1 hr hby hs2 hl2 hr2 d1
        have hs1 : IntKind.i32.wrap ((x - 55296) * 1024) = (x - 55296) * 1024 := by rw [IntKind.wrap_i32]; omega
        go_enter Tryd.func113, Tryd.ntmps113
        go_wp2_with fail
        refine HC.out.mono ?_
        rintro e w1 ⟨rfl, hb⟩
        have HB := Aside0.mk hb; clear hb
        go_wp2_with fail
        refine (HD.out _ HB.out).mono ?_
        rintro e w2 ⟨rfl, hb⟩
        have HB2 := Aside0.mk (below_step' HB.out hb); clear hb
        go_wp2
        go_ret2
        exact TakePost.mk' HT.out HB2.out
end Go.Proofs.YtkhigagkgpfpfaaDoor.Ext

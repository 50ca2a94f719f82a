/- The Go functions warpbeamref02.next and Decode, walked: they answer as package text does. -/
import Derived.Test.YtkhigagkgpfpfaaDoorTextRefUnit
set_option linter.unusedVariables false
set_option linter.unusedSimpArgs false
namespace Go.Proofs.YtkhigagkgpfpfaaDoor.Ext
open Go.RowKit Go.Lib Go.Proofs.YtkhigagkgpfpfaaDoorW.PrintWords Go.Proofs.YtkhigagkgpfpfaaDoorW.PrintLast Go.Proofs.YtkhigagkgpfpfaaDoorW.PrintMore Go.Proofs.YtkhigagkgpfpfaaDoor.PLeb
attribute [local go_sem] max2_int min2_int max_two min_two max_three min_three max_four min_four

/-- what the two units have in common -/
theorem runit_unit (b : List Int) (hb : Bytes b) : (runitL b = (0, 0) ∧ unitL b = (0, 0)) ∨ (∃ c, runitL b = (c, 1) ∧ unitL b = (c, 1) ∧ 1 ≤ c ∧ c ≤ 127) ∨
    (∃ c, runitL b = (c, 2) ∧ 0 ≤ c ∧ c ≤ 2047 ∧ unitL b = if c ≠ 0 ∧ c ≤ 127 then (0, 0) else (c, 2)) ∨ (∃ c, runitL b = (c, 3) ∧ 0 ≤ c ∧ c ≤ 65535 ∧ unitL b = if c ≤ 2047 then (0, 0) else (c, 3)) := by
  have g0 := getD_byte hb 0; have g1 := getD_byte hb 1; have g2 := getD_byte hb 2
  have n0 : b.length ≤ 0 → b.getD 0 0 = 0 := fun h => by rw [List.getD_eq_getElem?_getD, List.getElem?_eq_none (by omega)]; rfl
  have n1 : b.length ≤ 1 → b.getD 1 0 = 0 := fun h => by rw [List.getD_eq_getElem?_getD, List.getElem?_eq_none (by omega)]; rfl
  have n2 : b.length ≤ 2 → b.getD 2 0 = 0 := fun h => by rw [List.getD_eq_getElem?_getD, List.getElem?_eq_none (by omega)]; rfl
  unfold runitL unitL runitN unitN
  generalize b.getD 0 0 = x at *; generalize b.getD 1 0 = y at *; generalize b.getD 2 0 = z at *
  generalize b.length = n at *
  by_cases h1 : 1 ≤ n ∧ (1 ≤ x ∧ x ≤ 127)
  · right; left
    exact ⟨x, by rw [if_pos h1], by rw [if_neg (by omega), if_pos (by omega)], h1.2.1, h1.2.2⟩
  · by_cases h2 : 2 ≤ n ∧ x / 32 = 6 ∧ y / 64 = 2
    · right; right; left
      exact ⟨x % 32 * 64 + y % 64, by rw [if_neg h1, if_pos h2], by omega, by omega, by rw [if_neg (by omega), if_neg (by omega), if_pos (by omega)]⟩
    · by_cases h3 : 3 ≤ n ∧ x / 16 = 14 ∧ y / 64 = 2 ∧ z / 64 = 2
      · right; right; right
        exact ⟨x % 16 * 4096 + y % 64 * 64 + z % 64, by rw [if_neg h1, if_neg h2, if_pos h3], by omega, by omega, by rw [if_neg (by omega), if_neg (by omega), if_neg (by omega), if_pos (by omega)]⟩
      · left
        refine ⟨by rw [if_neg h1, if_neg h2, if_neg h3], ?_⟩
        by_cases h4 : n = 0 ∨ x = 0
        · rw [if_pos h4]
        · rw [if_neg h4, if_neg (by omega), if_neg (by omega), if_neg (by omega)]
def NextPost (w : World) (b : List Int) (e : Ending) (w' : World) : Prop := e = .returned (.tuple #[.int .i64 (takeL b).1, .int .i64 (takeL b).2]) ∧ Below w.heap.size w w'
theorem NextPost.mk' {w : World} {l : List Int} {w' : World} {a b : Int} (h : takeL l = (a, b)) (hb : Below w.heap.size w w') : NextPost w l (.returned (.tuple #[.int .i64 a, .int .i64 b])) w' := by
  unfold NextPost; rw [h]; exact ⟨rfl, hb⟩
theorem runit_eq {l : List Int} {A : Option Addr} {c at_ : Nat} {w : World} {x s : Int} (hu : runitL (l.drop at_) = (x, s)) (hby : Bytes l) (hr : Kd.C (Kd.int .u8) w A l.length l) (hm : (l.length : Int) ≤ 4611686018427387904) (hat : at_ ≤ l.length) :
    Calls Tryd.prog 86 #[.slice A l.length c, .int .i64 (at_ : Int)] w fun e w' => e = .returned (.tuple #[.int .i64 x, .int .i64 s]) ∧ Below w.heap.size w w' := by
  refine (runit_calls l A c at_ w hby hr hm hat).mono fun e w' h => ?_
  unfold RunitPost at h
  rwa [hu] at h
set_option maxHeartbeats 16000000 in
set_option maxRecDepth 100000 in
theorem next_calls (l : List Int) (A : Option Addr) (c at_ : Nat) (w : World) (hby : Bytes l) (hr : Kd.C (Kd.int .u8) w A l.length l) (hm : (l.length : Int) ≤ 4611686018427387904) (hat : at_ ≤ l.length) :
    Calls Tryd.prog 79 #[.slice A l.length c, .int .i64 (at_ : Int)] w (NextPost w (l.drop at_)) := by
  have HB := Aside0.mk (Below.refl w.heap.size w)
  have hl := unitL_len (l.drop at_)
  have hll : (l.drop at_).length = l.length - at_ := List.length_drop
  have hta : (at_ : Int) ≤ (l.length : Int) := by omega
  have ht : ∀ x s, unitL (l.drop at_) = (x, s) → takeL (l.drop at_) = if s < 3 ∨ x < 55296 ∨ x > 57343 then (x, s) else if x ≥ 56320 then (0, 0)
      else if (unitL (l.drop (at_ + 3))).2 < 3 ∨ (unitL (l.drop (at_ + 3))).1 < 56320 ∨ (unitL (l.drop (at_ + 3))).1 > 57343 then (0, 0)
      else (65536 + (x - 55296) * 1024 + (unitL (l.drop (at_ + 3))).1 - 56320, 6) := by
    intro x s h; unfold takeL; rw [h, List.drop_drop]
  rcases runit_unit (l.drop at_) (hby.drop at_) with ⟨h1, h2⟩ | ⟨x, h1, h2, x0, x1⟩ | ⟨x, h1, x0, x1, h2⟩ | ⟨x, h1, x0, x1, h2⟩
  · have HC := Aside0.mk (runit_eq h1 hby hr hm hat (c := c))
    have HT := Aside0.mk (show takeL (l.drop at_) = (0, 0) by rw [ht _ _ h2, if_pos (by omega)])
    clear h1 h2 ht hl hll hby hr
    go_enter Tryd.func79, Tryd.ntmps79
    go_wp2_with fail
    refine HC.out.mono ?_
    rintro e w1 ⟨rfl, hb⟩
    have n0_ := Aside0.mk (below_step HB.out hb); clear HB hb; have HB := n0_; clear n0_
    go_wp2
    go_ret2
    exact NextPost.mk' HT.out HB.out
  · have HC := Aside0.mk (runit_eq h1 hby hr hm hat (c := c))
    have HT := Aside0.mk (show takeL (l.drop at_) = (x, 1) by rw [ht _ _ h2, if_pos (by omega)])
    have d1 : decide (56320 ≤ x) = false := decide_eq_false (by omega)
    have d2 : decide (x < 55296) = true := decide_eq_true (by omega)
    clear h1 h2 ht hl hll hby hr
    go_enter Tryd.func79, Tryd.ntmps79
    go_wp2_with fail
    refine HC.out.mono ?_
    rintro e w1 ⟨rfl, hb⟩
    have n0_ := Aside0.mk (below_step HB.out hb); clear HB hb; have HB := n0_; clear n0_
    go_wp2
    go_ret2
    exact NextPost.mk' HT.out HB.out
  · have HC := Aside0.mk (runit_eq h1 hby hr hm hat (c := c))
    have d1 : decide (56320 ≤ x) = false := decide_eq_false (by omega)
    have d2 : decide (x < 55296) = true := decide_eq_true (by omega)
    by_cases k : x ≠ 0 ∧ x ≤ 127
    · rw [if_pos k] at h2
      have HT := Aside0.mk (show takeL (l.drop at_) = (0, 0) by rw [ht _ _ h2, if_pos (by omega)])
      have d3 : decide (x < 128) = true := decide_eq_true (by omega)
      have d4 : (x != 0) = true := by rw [bne_iff_ne]; exact k.1
      clear h1 h2 ht hl hll hby hr k
      go_enter Tryd.func79, Tryd.ntmps79
      go_wp2_with fail
      refine HC.out.mono ?_
      rintro e w1 ⟨rfl, hb⟩
      have n0_ := Aside0.mk (below_step HB.out hb); clear HB hb; have HB := n0_; clear n0_
      go_wp2
      go_ret2
      exact NextPost.mk' HT.out HB.out
    · rw [if_neg k] at h2
      have HT := Aside0.mk (show takeL (l.drop at_) = (x, 2) by rw [ht _ _ h2, if_pos (by omega)])
      by_cases k0 : x = 0
      · subst k0
        clear h1 h2 ht hl hll hby hr k d1 d2
        go_enter Tryd.func79, Tryd.ntmps79
        go_wp2_with fail
        refine HC.out.mono ?_
        rintro e w1 ⟨rfl, hb⟩
        have n0_ := Aside0.mk (below_step HB.out hb); clear HB hb; have HB := n0_; clear n0_
        go_wp2
        go_ret2
        exact NextPost.mk' HT.out HB.out
      · have d3 : decide (x < 128) = false := decide_eq_false (by omega)
        clear h1 h2 ht hl hll hby hr k k0
        go_enter Tryd.func79, Tryd.ntmps79
        go_wp2_with fail
        refine HC.out.mono ?_
        rintro e w1 ⟨rfl, hb⟩
        have n0_ := Aside0.mk (below_step HB.out hb); clear HB hb; have HB := n0_; clear n0_
        go_wp2
        go_ret2
        exact NextPost.mk' HT.out HB.out
  · have HC := Aside0.mk (runit_eq h1 hby hr hm hat (c := c))
    by_cases k : x ≤ 2047
    · rw [if_pos k] at h2
      have HT := Aside0.mk (show takeL (l.drop at_) = (0, 0) by rw [ht _ _ h2, if_pos (by omega)])
      have d3 : decide (x < 2048) = true := decide_eq_true (by omega)
      clear h1 h2 ht hl hll hby hr k
      go_enter Tryd.func79, Tryd.ntmps79
      go_wp2_with fail
      refine HC.out.mono ?_
      rintro e w1 ⟨rfl, hb⟩
      have n0_ := Aside0.mk (below_step HB.out hb); clear HB hb; have HB := n0_; clear n0_
      go_wp2
      go_ret2
      exact NextPost.mk' HT.out HB.out
    · rw [if_neg k] at h2
      rw [h2] at hl
      simp only at hl
      have d3 : decide (x < 2048) = false := decide_eq_false (by omega)
      have ht := ht _ _ h2
      by_cases k1 : x < 55296 ∨ x > 57343
      · have HT := Aside0.mk (show takeL (l.drop at_) = (x, 3) by rw [ht, if_pos (by omega)])
        by_cases k2 : x < 55296
        · have d4 : decide (56320 ≤ x) = false := decide_eq_false (by omega)
          have d5 : decide (x < 55296) = true := decide_eq_true (by omega)
          clear h1 h2 ht hl hll hby hr k k1 k2
          go_enter Tryd.func79, Tryd.ntmps79
          go_wp2_with fail
          refine HC.out.mono ?_
          rintro e w1 ⟨rfl, hb⟩
          have n0_ := Aside0.mk (below_step HB.out hb); clear HB hb; have HB := n0_; clear n0_
          go_wp2
          go_ret2
          exact NextPost.mk' HT.out HB.out
        · have d4 : decide (56320 ≤ x) = true := decide_eq_true (by omega)
          have d5 : decide (x < 55296) = false := decide_eq_false (by omega)
          have d6 : decide (x ≤ 57343) = false := decide_eq_false (by omega)
          have d7 : decide (56319 < x) = true := decide_eq_true (by omega)
          clear h1 h2 ht hl hll hby hr k k1 k2
          go_enter Tryd.func79, Tryd.ntmps79
          go_wp2_with fail
          refine HC.out.mono ?_
          rintro e w1 ⟨rfl, hb⟩
          have n0_ := Aside0.mk (below_step HB.out hb); clear HB hb; have HB := n0_; clear n0_
          go_wp2
          go_ret2
          exact NextPost.mk' HT.out HB.out
      · by_cases k2 : x ≥ 56320
        · have HT := Aside0.mk (show takeL (l.drop at_) = (0, 0) by rw [ht, if_neg (by omega), if_pos k2])
          have d4 : decide (56320 ≤ x) = true := decide_eq_true (by omega)
          have d6 : decide (x ≤ 57343) = true := decide_eq_true (by omega)
          clear h1 h2 ht hl hll hby hr k k1 k2
          go_enter Tryd.func79, Tryd.ntmps79
          go_wp2_with fail
          refine HC.out.mono ?_
          rintro e w1 ⟨rfl, hb⟩
          have n0_ := Aside0.mk (below_step HB.out hb); clear HB hb; have HB := n0_; clear n0_
          go_wp2
          go_ret2
          exact NextPost.mk' HT.out HB.out
        · rw [if_neg (by omega), if_neg k2] at ht
          have d4 : decide (56320 ≤ x) = false := decide_eq_false (by omega)
          have d5 : decide (x < 55296) = false := decide_eq_false (by omega)
          have d7 : decide (56319 < x) = false := decide_eq_false (by omega)
          have hat3 : at_ + 3 ≤ l.length := by omega
          have hc3 : ((at_ + 3 : Nat) : Int) = (at_ : Int) + 3 := by omega
          have hx3 : (x - 55296) * 1024 ≤ 1047552 := by omega
          have hx30 : 0 ≤ (x - 55296) * 1024 := by omega
          obtain ⟨y, t, hv⟩ : ∃ y t, runitL (l.drop (at_ + 3)) = (y, t) := ⟨_, _, rfl⟩
          have HD := Aside0.mk (fun (w1 : World) (hb : Below w.heap.size w w1) => runit_eq (c := c) hv hby (Kd.C_below hr hb) hm hat3)
          rw [hc3] at HD
          have hbs := runit_unit (l.drop (at_ + 3)) (hby.drop (at_ + 3))
          rw [hv] at hbs
          have hn : (t = 3 ∧ 56320 ≤ y ∧ y ≤ 57343 ∧ takeL (l.drop at_) = (65536 + (x - 55296) * 1024 + y - 56320, 6)) ∨ ((t ≠ 3 ∨ (t = 3 ∧ (y < 56320 ∨ 57343 < y))) ∧ takeL (l.drop at_) = (0, 0)) := by
            rcases hbs with ⟨a1, a2⟩ | ⟨q, a1, a2, q0, q1⟩ | ⟨q, a1, q0, q1, a2⟩ | ⟨q, a1, q0, q1, a2⟩
            · right; cases a1; rw [a2, if_pos (by omega)] at ht; exact ⟨.inl (by omega), ht⟩
            · right; cases a1; rw [a2, if_pos (by omega)] at ht; exact ⟨.inl (by omega), ht⟩
            · right; cases a1
              have : (unitL (l.drop (at_ + 3))).2 < 3 := by rw [a2]; split <;> simp
              rw [if_pos (.inl this)] at ht; exact ⟨.inl (by omega), ht⟩
            · cases a1
              by_cases z1 : y ≤ 2047
              · right; rw [a2, if_pos z1, if_pos (by omega)] at ht; exact ⟨.inr ⟨rfl, by omega⟩, ht⟩
              · rw [a2, if_neg z1] at ht
                simp only at ht
                by_cases z2 : y < 56320 ∨ y > 57343
                · right; rw [if_pos (by omega)] at ht; exact ⟨.inr ⟨rfl, by omega⟩, ht⟩
                · left; rw [if_neg (by omega)] at ht; exact ⟨rfl, by omega, by omega, ht⟩
          clear h1 h2 ht hl hll hby hr k k1 k2 hbs hv hc3
          rcases hn with ⟨rfl, y0, y1, ht⟩ | ⟨hn, ht⟩
          · have HT := Aside0.mk ht
            have d8 : decide (y < 56320) = false := decide_eq_false (by omega)
            have d9 : decide (57343 < y) = false := decide_eq_false (by omega)
            clear ht
            go_enter Tryd.func79, Tryd.ntmps79
            go_wp2_with fail
            refine HC.out.mono ?_
            rintro e w1 ⟨rfl, hb⟩
            have n0_ := Aside0.mk (below_step HB.out hb); clear HB hb; have HB := n0_; clear n0_
            go_wp2_with fail
            refine (HD.out _ HB.out).mono ?_
            rintro e w2 ⟨rfl, hb⟩
            have n0_ := Aside0.mk (below_step HB.out hb); clear HB hb; have HB := n0_; clear n0_
            go_wp2
            go_ret2
            exact NextPost.mk' HT.out HB.out
          · have HT := Aside0.mk ht
            clear ht
            rcases hn with hn | ⟨rfl, hn⟩
            · have d8 : (t != 3) = true := by rw [bne_iff_ne]; exact hn
              clear hn
              go_enter Tryd.func79, Tryd.ntmps79
              go_wp2_with fail
              refine HC.out.mono ?_
              rintro e w1 ⟨rfl, hb⟩
              have n0_ := Aside0.mk (below_step HB.out hb); clear HB hb; have HB := n0_; clear n0_
              go_wp2_with fail
              refine (HD.out _ HB.out).mono ?_
              rintro e w2 ⟨rfl, hb⟩
              have n0_ := Aside0.mk (below_step HB.out hb); clear HB hb; have HB := n0_; clear n0_
              go_wp2
              go_ret2
              exact NextPost.mk' HT.out HB.out
            · rcases hn with hn | hn
              · have d8 : decide (y < 56320) = true := decide_eq_true hn
                clear hn
                go_enter Tryd.func79, Tryd.ntmps79
                go_wp2_with fail
                refine HC.out.mono ?_
                rintro e w1 ⟨rfl, hb⟩
                have n0_ := Aside0.mk (below_step HB.out hb); clear HB hb; have HB := n0_; clear n0_
                go_wp2_with fail
                refine (HD.out _ HB.out).mono ?_
                rintro e w2 ⟨rfl, hb⟩
                have n0_ := Aside0.mk (below_step HB.out hb); clear HB hb; have HB := n0_; clear n0_
                go_wp2
                go_ret2
                exact NextPost.mk' HT.out HB.out
              · have d8 : decide (y < 56320) = false := decide_eq_false (by omega)
                have d9 : decide (57343 < y) = true := decide_eq_true hn
                clear hn
                go_enter Tryd.func79, Tryd.ntmps79
                go_wp2_with fail
                refine HC.out.mono ?_
                rintro e w1 ⟨rfl, hb⟩
                have n0_ := Aside0.mk (below_step HB.out hb); clear HB hb; have HB := n0_; clear n0_
                go_wp2_with fail
                refine (HD.out _ HB.out).mono ?_
                rintro e w2 ⟨rfl, hb⟩
                have n0_ := Aside0.mk (below_step HB.out hb); clear HB hb; have HB := n0_; clear n0_
                go_wp2
                go_ret2
                exact NextPost.mk' HT.out HB.out
theorem next_eq {l : List Int} {A : Option Addr} {c at_ : Nat} {w : World} (hby : Bytes l) (hr : Kd.C (Kd.int .u8) w A l.length l) (hm : (l.length : Int) ≤ 4611686018427387904) (hat : at_ ≤ l.length) :
    Calls Tryd.prog 79 #[.slice A l.length c, .int .i64 (at_ : Int)] w fun e w' => e = .returned (.tuple #[.int .i64 (takeL (l.drop at_)).1, .int .i64 (takeL (l.drop at_)).2]) ∧ Below w.heap.size w w' :=
  (next_calls l A c at_ w hby hr hm hat).mono fun _ _ h => h
/-- UTF-8, as numbers -/
def uz : List Int → List Int
  | [] => []
  | c :: t => encodeRuneZ c ++ uz t
theorem uz_append : ∀ a b : List Int, uz (a ++ b) = uz a ++ uz b
  | [], _ => rfl
  | c :: t, b => by simp [uz, uz_append t b, List.append_assoc]
theorem uz_len : ∀ cs : List Int, (uz cs).length ≤ 4 * cs.length
  | [] => by simp [uz]
  | c :: t => by have := uz_len t; have := encodeRuneZ_length c; simp only [uz, List.length_append, List.length_cons]; omega
theorem uz_us : ∀ cs : List Int, (uz cs).map (fun n => UInt8.ofNat n.toNat) = us cs
  | [] => rfl
  | c :: t => by simp only [uz, us, List.map_append, uz_us t]; rfl
theorem str_uz (cs : List Int) : strOfNums (uz cs) = runesBytes cs := ba_ext (by rw [runesBytes_us, strOfNums_data, uz_us])
theorem runeCells_nums (c : Int) : runeCells c = nums .u8 (encodeRuneZ c) := rfl
theorem aprune_calls (v : Value) (xs : List Int) (c : Int) (base : Nat) (w : World) (hO : w.ownsRow base 5 1 v xs.length (nums .u8 xs)) (hb : base ≤ w.heap.size) (hl : xs.length ≤ 140737488355000) (h0 : 0 ≤ c) (h1 : c ≤ 1114111) :
    Calls Tryd.prog 80 #[v, .int .i32 c] w fun e w' => ∃ v', e = .returned v' ∧ w'.ownsRow base 5 1 v' (xs ++ encodeRuneZ c).length (nums .u8 (xs ++ encodeRuneZ c)) ∧ Below base w w' := by
  refine (Tryd.utf8_AppendRune_plain base v xs.length (nums .u8 xs) c (by omega) (by omega) w hO (by omega) hb).mono ?_
  rintro e w' ⟨v', rfl, ho, o, hg⟩
  refine ⟨v', rfl, ?_, ?_⟩
  · rw [List.length_append, nums_append]
    rw [runeCells_nums, nums_length] at ho
    exact ho
  · exact ((Below.refl base w).alloc hb o).grown hg (by simp; omega) (own_base hO)
end Go.Proofs.YtkhigagkgpfpfaaDoor.Ext

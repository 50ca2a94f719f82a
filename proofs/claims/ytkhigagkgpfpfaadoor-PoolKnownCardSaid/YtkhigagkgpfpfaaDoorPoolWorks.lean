/- The statements' own examples of package pool ('works') come through: it returns true. -/
import Derived.Test.YtkhigagkgpfpfaaDoorPoolTellsA
set_option linter.unusedVariables false
set_option linter.unusedSimpArgs false
namespace Go.Proofs.YtkhigagkgpfpfaaDoor.Ext
open Go.RowKit Go.Lib Go.Proofs.YtkhigagkgpfpfaaDoorW.PrintWords Go.Proofs.YtkhigagkgpfpfaaDoorW.PrintLast Go.Proofs.YtkhigagkgpfpfaaDoorW.PrintMore Go.Proofs.YtkhigagkgpfpfaaDoor.PLeb
attribute [local go_sem] max2_int min2_int max_two min_two max_three min_three max_four min_four

theorem lit_C (l : List Int) (n : Nat) (hn : l.length = n) (W : World) (C : Array Value) (hC : C.toList = nums .u8 l) (fr : Nat × Nat) (hm : l.length ≤ 9223372036854775807) : Kd.C (Kd.int .u8) (W.alloc (.cells C 5 fr)) (some ⟨W.heap.size, 0, none⟩) l.length l := by
  refine Kd.C_of_reads (d := (0 : Int)) (h1 := fun _ => rfl) ⟨rfl, hm, fun _ => ⟨_, rfl, fun j hj => ?_⟩⟩
  rw [add_plain, cell_of_row _ W.heap.size j C 5 fr (heap_alloc_new W _), ← Array.getElem?_toList, hC]
  simp [nums, List.getElem?_eq_getElem hj, List.getD_eq_getElem?_getD]
def byB (c : Int) : Bool := decide (0 ≤ c ∧ c ≤ 255)
theorem by_all {l : List Int} (h : l.all byB = true) : Bytes l := fun c hc => show 0 ≤ c ∧ c ≤ 255 from of_decide_eq_true (List.all_eq_true.1 h c hc)
theorem own_C {w : World} {base n c : Nat} {A : Option Addr} {z : List Int} (h : w.ownsRow base 5 1 (.slice A n c) z.length (nums .u8 z)) : n = z.length ∧ n ≤ c ∧ Kd.C (Kd.int .u8) w A z.length z :=
  Kd.R_reads' (Kd.R_of_own (enc := Value.int .u8) (h1 := fun _ => rfl) (ok := fun _ => True) h (fun _ _ => trivial))
/-- Bytes, the row laid open -/
theorem bytes_c {l : List S35} {bs : List Int} {A : Option Addr} {n cap : Nat} (w : World) (hT : Tabs w) (hs : Tiny l) (hi : Ints l) (hr : Kd.C k35 w A l.length l) (hn : l.length = n) (hc : n ≤ cap) (hk : checkL l = 0) (hb : bytesL l = bs) :
    Calls Tryd.prog 24 #[.slice A n cap] w fun e w' => ∃ (A1 : Option Addr) (c1 : Nat), e = .returned (.tuple #[.slice A1 bs.length c1, .int .i64 0]) ∧ bs.length ≤ c1 ∧ Kd.C (Kd.int .u8) w' A1 bs.length bs ∧ Kd.R (Kd.int .u8) 5 w' w.heap.size (fun _ => True) (.slice A1 bs.length c1) bs ∧ Below w.heap.size w w' := by
  subst hb
  refine (bytes_ok w hT hs hi hr hn hc hk).mono ?_
  rintro e w' ⟨v, rfl, ho, hb⟩
  have hR := Kd.R_of_own (enc := Value.int .u8) (h1 := fun _ => rfl) (ok := fun _ => True) ho (fun _ _ => trivial)
  obtain ⟨A1, c1, rfl, hl, hC⟩ := Kd.R_reads hR
  exact ⟨A1, c1, rfl, hl, hC, hR, hb⟩
/-- an error tells nothing else -/
theorem parse_none {b : List Int} {e : Int} (h : (parseL b).2.2 = e) (he : e ≠ 0) : parseL b = ([], [], e) := by
  unfold parseL at h ⊢
  generalize takeU b = r at h
  obtain ⟨n, b1, e1⟩ := r
  simp only [parseL1] at h ⊢
  split at h
  · rename_i h1
    rw [if_pos h1]
    split at h
    · rename_i h2
      rw [if_pos h2]
      have h3 : (5 : Int) = e := h
      rw [h3]
    · rename_i h2
      rw [if_neg h2]
      generalize manyL n b1 = S at h
      obtain ⟨x, y, z⟩ := S
      simp only [lastL] at h ⊢
      split at h
      · rename_i h3
        rw [if_pos h3]
        split at h
        · exact absurd (show (0 : Int) = e from h).symm he
        · rename_i h4
          rw [if_neg h4]
          have h5 : checkL x = e := h
          rw [h5]
      · rename_i h3
        rw [if_neg h3]
        have h5 : z = e := h
        rw [h5]
  · rename_i h1
    rw [if_neg h1]
    have h5 : e1 = e := h
    rw [h5]
set_option maxHeartbeats 4000000 in
set_option maxRecDepth 100000 in
theorem lawIs_calls {l : List S35} {bs : List Int} {A A1 : Option Addr} {n c n1 c1 : Nat} (w : World) (hT : Tabs w) (hRd : Rds w) (hs : Tiny l) (hi : Ints l) (hk : checkL l = 0) (hb : bytesL l = bs) (hm : bs.length ≤ 100000000) (hr : Kd.C k35 w A l.length l) (hn : l.length = n) (hc : n ≤ c) (hr1 : Kd.C (Kd.int .u8) w A1 bs.length bs) (hn1 : bs.length = n1) (hc1 : n1 ≤ c1) :
    Calls Tryd.prog 30 #[.slice A n c, .slice A1 n1 c1] w fun y w' => y = .returned (.bool true) ∧ Below w.heap.size w w' := by
  subst hn; subst hn1
  have HBY := Aside0.mk (bytes_c w hT hs hi hr rfl hc hk hb)
  have h4096 := (checkL_ok hk).2.1
  have hbb := bytesL_len hk hs hi
  rw [hb] at hbb
  obtain ⟨z, hz⟩ : ∃ z, bs ++ [9, 9] = z := ⟨_, rfl⟩
  have hpz := parse_bytes hk hs hi [9, 9] (by_all (by decide)) (by decide)
  rw [hb, hz] at hpz
  have HPZ := Aside0.mk hpz
  have HZ := Aside0.mk hz
  have HZB := Aside0.mk (show Bytes z from hz ▸ Bytes.append hbb.2.2 (by_all (by decide)))
  have HZL := Aside0.mk (show z.length ≤ 1000000000 by rw [← hz, List.length_append]; simp; omega)
  have HM := Aside0.mk hm
  have HT := Aside0.mk hT
  have HRD := Aside0.mk hRd
  have HR := Aside0.mk hr
  have HR1 := Aside0.mk hr1
  have HC := Aside0.mk hc
  have HC1 := Aside0.mk hc1
  have HLM := Aside0.mk (show l.length ≤ 4000000000000 by omega)
  clear hT hRd hs hi hk hb hm hr hc hr1 hc1 h4096 hbb hpz hz
  go_enter Tryd.func30, Tryd.ntmps30
  go_wp2_with fail
  refine HBY.out.mono ?_
  rintro y w1 ⟨Av, cv, rfl, hlv, -, hRv, hb1⟩
  have HB := Aside0.mk hb1
  have HV := Aside0.mk (Kd.R_mono (Kd.R_bound hRv) (fun k hk => hk.2.2.1))
  have HVL := Aside0.mk hlv
  clear hlv hRv hb1 HBY
  go_wp2_with fail
  refine (copy_calls (Kd.C_below HR1.out HB.out) rfl HC1.out (by have := HM.out; omega)).mono ?_
  rintro y w2 ⟨v2, rfl, ho2, hb2⟩
  have HO := Aside0.mk (Kd.R_below (Kd.R_lower ho2 (below_size HB.out)) (below_alloc (Below.refl _ _) (.cells #[.int .u8 9, .int .u8 9] 5)))
  have HG2 := Aside0.mk (show ∀ k, k < w1.heap.size → some k ≠ v2.ownBlock from fun k hk e => absurd (own_base (Kd.R_own ho2).choose_spec k e.symm) (by omega))
  have HV2 := Aside0.mk (Kd.R_below HV.out hb2)
  have n0_ := Aside0.mk (below_step HB.out hb2); clear HB HV hb2 ho2; have HB := n0_; clear n0_
  have HBa := Aside0.mk (below_alloc HB.out (.cells #[.int .u8 9, .int .u8 9] 5))
  have HVa := Aside0.mk (Kd.R_below HV2.out (below_alloc (Below.refl _ _) (.cells #[.int .u8 9, .int .u8 9] 5)))
  have HL9 := Aside0.mk (lit_C [9, 9] 2 rfl w2 #[.int .u8 9, .int .u8 9] rfl (0, 0) (by decide))
  go_wp2_with (at_builtin; go_loud (refine Kd.R_append_rows (Kd.int .u8) (w0 := w) w.heap.size rfl _ _ 22 5 (.int .u8 0) 1 rfl Tryd.underlying22 infoB rfl (by decide) (by omega) v2 bs [9, 9] (some ⟨w2.heap.size, 0, none⟩) 2 2 (fun _ => True) (fun _ => False) rfl rfl HO.out HL9.out (fun _ _ h => h) (fun _ h => h.elim) (fun _ _ => trivial) HBa.out (below_size HBa.out) (by have := HM.out; simp; omega) ?_); intro v3 w3 ho hb hg hat; rw [HZ.out] at ho; obtain ⟨A3, c3, rfl, hl3, hC3⟩ := Kd.R_reads ho; have HL3 := Aside0.mk hl3; have HC3 := Aside0.mk hC3; have HB3 := Aside0.mk hb; go_loud (have HV3 := Aside0.mk (Kd.R_reads' (Kd.R_grown HVa.out hg HG2.out)).2.2); clear ho hb hg hat hl3 hC3)
  refine (parse_calls w3 (HT.out.below HB3.out) (HRD.out.from HB3.out HRD.out.lt) HZB.out (by have := HZL.out; omega) HC3.out rfl HL3.out).mono ?_
  rw [HPZ.out]
  rintro y w4 ⟨vl, vr, rfl, hol, hor, hb4⟩
  obtain ⟨A4, c4, rfl, hl4, hC4⟩ := Kd.R_reads hol
  obtain ⟨A5, c5, rfl, hl5, hC5⟩ := Kd.R_reads hor
  have HL4 := Aside0.mk hl4
  have HC4 := Aside0.mk hC4
  have HL5 := Aside0.mk hl5
  have HC5 := Aside0.mk hC5
  have HV4 := Aside0.mk (Kd.C_below HV3.out hb4)
  have HB4 := Aside0.mk (below_step HB3.out hb4)
  clear HB HBa HB3 HV3 HVa HV2 hol hor hb4 hl4 hl5 hC4 hC5 HL9 HO HC3 HL3
  go_wp2_with fail
  refine (eq_calls true HV4.out rfl HVL.out (Kd.C_below HR1.out HB4.out) rfl HC1.out (by have := HM.out; omega) (decide_eq_true rfl)).mono ?_
  rintro y w5 ⟨rfl, hb5⟩
  have HB5 := Aside0.mk (below_step HB4.out hb5)
  have HC45 := Aside0.mk (Kd.C_below HC4.out hb5)
  have HC55 := Aside0.mk (Kd.C_below HC5.out hb5)
  clear hb5 HB4 HC4 HC5 HV4
  go_wp2_with fail
  refine (same_calls (Kd.C_below HR.out HB5.out) rfl HC.out HC45.out rfl HL4.out HLM.out).mono ?_
  rintro y w6 ⟨rfl, hb6⟩
  have HB6 := Aside0.mk (below_step HB5.out hb6)
  have HC56 := Aside0.mk (Kd.C_below HC55.out hb6)
  clear hb6 HB5 HC45 HC55
  go_wp2_with fail
  refine (eq_calls true (Kd.C_alloc HC56.out _) rfl HL5.out (lit_C [9, 9] 2 rfl w6 #[.int .u8 9, .int .u8 9] rfl (0, 0) (by decide)) rfl (Nat.le_refl _) (by decide) (decide_eq_true rfl)).mono ?_
  rintro y w7 ⟨rfl, hb7⟩
  have HB7 := Aside0.mk (below_step (below_alloc HB6.out _) hb7)
  clear hb7
  go_wp2
  go_ret
  exact ⟨rfl, HB7.out⟩
set_option maxHeartbeats 4000000 in
set_option maxRecDepth 100000 in
theorem lawFails_calls {b : List Int} {A : Option Addr} {n c : Nat} {want : Int} (w : World) (hT : Tabs w) (hRd : Rds w) (hby : Bytes b) (hm : b.length ≤ 1000000000) (hp : (parseL b).2.2 = want) (hw : want ≠ 0) (hr : Kd.C (Kd.int .u8) w A b.length b) (hn : b.length = n) (hc : n ≤ c) :
    Calls Tryd.prog 31 #[.int .i64 want, .slice A n c] w fun y w' => y = .returned (.bool true) ∧ Below w.heap.size w w' := by
  subst hn
  have he : parseL b = ([], [], want) := parse_none hp hw
  have HP := Aside0.mk (parse_calls w hT hRd hby (by omega) hr rfl hc)
  rw [he] at HP
  clear hT hRd hby hm hp hr hc he
  go_enter Tryd.func31, Tryd.ntmps31
  go_wp2_with fail
  refine HP.out.mono ?_
  rintro y w4 ⟨vl, vr, rfl, hol, hor, hb4⟩
  obtain ⟨A4, c4, rfl, -, -⟩ := Kd.R_reads hol
  obtain ⟨A5, c5, rfl, -, -⟩ := Kd.R_reads hor
  have HB4 := Aside0.mk hb4
  clear hol hor hb4 HP
  go_wp2
  go_ret
  exact ⟨rfl, HB4.out⟩
/-- a constant as cells -/
def cells35 (x : S35) : List Value := [.int .i64 x.f0, .string x.f1, .int .i64 x.f2, .int .i64 x.f3, .int .i64 x.f4, .int .i64 x.f5]
theorem flat6 : ∀ (l : List S35) (j : Nat) (p : S35) (i : Nat) (u : Value), l[j]? = some p → (cells35 p)[i]? = some u → (l.flatMap cells35)[j * 6 + i]? = some u
  | [], j, p, i, u, h, _ => by simp at h
  | x :: t, 0, p, i, u, h, hu => by
    have hx : x = p := by simpa using h
    subst hx
    rw [List.flatMap_cons, Nat.zero_mul, Nat.zero_add, List.getElem?_append_left (List.getElem?_eq_some_iff.1 hu).1]; exact hu
  | x :: t, j + 1, p, i, u, h, hu => by
    have h' : t[j]? = some p := by simpa using h
    rw [List.flatMap_cons, List.getElem?_append_right (by show 6 ≤ _; omega), show (j + 1) * 6 + i - (cells35 x).length = j * 6 + i by show (j + 1) * 6 + i - 6 = _; omega]
    exact flat6 t j p i u h' hu
theorem lit_C35 (l : List S35) (W : World) (C : Array Value) (hC : C.toList = l.flatMap cells35) (hm : l.length ≤ 9223372036854775807) : Kd.C k35 (W.alloc (.cells C 35)) (some ⟨W.heap.size, 0, none⟩) l.length l := by
  refine ⟨rfl, hm, fun _ => ⟨_, rfl, fun j p hj => ⟨cells35 p, rfl, k35_mk _ p, fun i u hu => ?_⟩⟩⟩
  rw [add_plain, cell_of_row _ W.heap.size _ C 35 (0, 0) (heap_alloc_new W _), ← Array.getElem?_toList, hC]
  exact flat6 l j p i u hj hu
theorem is_of_parse {l : List S35} {bs : List Int} (h : parseL bs = (l, [], 0)) (hb : Bytes bs) (hm : bs.length ≤ 2000000) : checkL l = 0 ∧ bytesL l = bs ∧ Tiny l ∧ Ints l := by
  have hp := parse_back hb (by omega) (by rw [h])
  rw [h] at hp
  obtain ⟨h1, h2, -, -, h5, h6⟩ := hp
  exact ⟨h1, by rw [← h2]; simp, fun x hx => by have := h6 x hx; omega, h5⟩
theorem isLit_calls {l : List S35} {bs : List Int} {A A1 : Option Addr} {n c n1 c1 : Nat} (w : World) (hT : Tabs w) (hRd : Rds w) (h : parseL bs = (l, [], 0)) (hb : (bs.all byB && decide (bs.length ≤ 2000000)) = true) (hr : Kd.C k35 w A l.length l) (hn : l.length = n) (hc : n ≤ c) (hr1 : Kd.C (Kd.int .u8) w A1 bs.length bs) (hn1 : bs.length = n1) (hc1 : n1 ≤ c1) :
    Calls Tryd.prog 30 #[.slice A n c, .slice A1 n1 c1] w fun y w' => y = .returned (.bool true) ∧ Below w.heap.size w w' := by
  simp only [Bool.and_eq_true, decide_eq_true_eq] at hb
  obtain ⟨h1, h2, h3, h4⟩ := is_of_parse h (by_all hb.1) hb.2
  exact lawIs_calls w hT hRd h3 h4 h1 h2 (by omega) hr hn hc hr1 hn1 hc1
theorem failsLit_calls {b : List Int} {A : Option Addr} {n c : Nat} {want : Int} (w : World) (hT : Tabs w) (hRd : Rds w) (h : (decide ((parseL b).2.2 = want) && decide (want ≠ 0) && b.all byB && decide (b.length ≤ 2000000)) = true) (hr : Kd.C (Kd.int .u8) w A b.length b) (hn : b.length = n) (hc : n ≤ c) :
    Calls Tryd.prog 31 #[.int .i64 want, .slice A n c] w fun y w' => y = .returned (.bool true) ∧ Below w.heap.size w w' := by
  simp only [Bool.and_eq_true, decide_eq_true_eq] at h
  exact lawFails_calls w hT hRd (by_all h.1.2) (by omega) h.1.1.1 h.1.1.2 hr hn hc
theorem lit_C' (l : List Int) (W : World) {m : Nat} (hs : W.heap.size = m) (C : Array Value) (hC : C.toList = nums .u8 l) (hm : l.length ≤ 9223372036854775807) : Kd.C (Kd.int .u8) (W.alloc (.cells C 5)) (some ⟨m, 0, none⟩) l.length l := by
  subst hs; exact lit_C l _ rfl W C hC (0, 0) hm
def chapL : List S35 := [⟨0, ⟨#[]⟩, 0, 0, 0, 0⟩, ⟨1, ⟨#[97]⟩, 0, 0, 0, 0⟩, ⟨4, ⟨#[]⟩, 0, 1, 0, 0⟩]
def numsL : List S35 := [⟨0, ⟨#[]⟩, 0, 0, 0, 0⟩, ⟨2, ⟨#[]⟩, -1, 0, 0, 0⟩, ⟨3, ⟨#[]⟩, 64, 0, 0, 0⟩]
theorem chap_parse : parseL [3, 1, 1, 97, 4, 1] = (chapL, [], 0) := by kernel_rfl
theorem nums_parse : parseL [3, 2, 127, 3, 192, 0] = (numsL, [], 0) := by kernel_rfl
theorem one_parse : parseL [1, 9] = ([zero35], [9], 0) := by kernel_rfl
set_option maxHeartbeats 16000000 in
set_option maxRecDepth 100000 in
theorem works_calls (w : World) (hT : Tabs w) (hRd : Rds w) : Calls Tryd.prog 17 #[] w fun e w' => e = .returned (.bool true) ∧ Below w.heap.size w w' := by
  have HB := Aside0.mk (Below.refl w.heap.size w)
  have HT := Aside0.mk hT
  have HRD := Aside0.mk hRd
  clear hT hRd
  go_enter Tryd.func17, Tryd.ntmps17
  go_wp2_with fail
  refine (L4_chapter.calls chapL w rfl).mono ?_
  rintro y w1 ⟨v, rfl, ho, hb⟩
  obtain ⟨A1, c1, rfl, hl, hC⟩ := Kd.R_reads ho
  have HC := Aside0.mk hC
  have HL := Aside0.mk hl
  have n0_ := Aside0.mk hb; clear HB hb ho hl hC; have HB := n0_; clear n0_
  obtain ⟨nn, hnn⟩ : ∃ n, chapL.length = n := ⟨_, rfl⟩
  have HNN := Aside0.mk hnn
  rw [hnn] at HL ⊢
  clear hnn
  go_wp2_with fail
  refine (class_c (l := chapL) (t := ⟨#[97]⟩) (e := 0) (by kernel_rfl) HC.out HNN.out HL.out).mono ?_
  rintro y w2 ⟨rfl, hb⟩
  have n1_ := Aside0.mk (Kd.C_below HC.out hb); clear HC; have HC := n1_; clear n1_
  have n0_ := Aside0.mk (below_step HB.out hb); clear HB hb; have HB := n0_; clear n0_
  go_wp2_with fail
  refine (class_c (l := chapL) (t := ⟨#[]⟩) (e := 40) (by kernel_rfl) HC.out HNN.out HL.out).mono ?_
  rintro y w3 ⟨rfl, hb⟩
  have n1_ := Aside0.mk (Kd.C_below HC.out hb); clear HC; have HC := n1_; clear n1_
  have n0_ := Aside0.mk (below_step HB.out hb); clear HB hb; have HB := n0_; clear n0_
  go_wp2_with fail
  refine (text_c (l := chapL) (t := ⟨#[97]⟩) (e := 0) (by kernel_rfl) HC.out HNN.out HL.out).mono ?_
  rintro y w4 ⟨rfl, hb⟩
  have n1_ := Aside0.mk (Kd.C_below HC.out hb); clear HC; have HC := n1_; clear n1_
  have n0_ := Aside0.mk (below_step HB.out hb); clear HB hb; have HB := n0_; clear n0_
  go_wp2_with fail
  refine (text_c (l := chapL) (t := ⟨#[]⟩) (e := 40) (by kernel_rfl) HC.out HNN.out HL.out).mono ?_
  rintro y w5 ⟨rfl, hb⟩
  have n1_ := Aside0.mk (Kd.C_below HC.out hb); clear HC; have HC := n1_; clear n1_
  have n0_ := Aside0.mk (below_step HB.out hb); clear HB hb; have HB := n0_; clear n0_
  go_wp2_with fail
  refine (text_c (l := chapL) (t := ⟨#[]⟩) (e := 40) (by kernel_rfl) HC.out HNN.out HL.out).mono ?_
  rintro y w6 ⟨rfl, hb⟩
  have n1_ := Aside0.mk (Kd.C_below HC.out hb); clear HC; have HC := n1_; clear n1_
  have n0_ := Aside0.mk (below_step HB.out hb); clear HB hb; have HB := n0_; clear n0_
  go_wp2_with fail
  refine (parse_calls (b0 := [1, 9]) _ (HT.out.below (below_alloc HB.out _)) (HRD.out.from (below_alloc HB.out _) HRD.out.lt) (by_all (by decide)) (by decide) (lit_C [1, 9] 2 rfl w6 _ rfl (0, 0) (by decide)) rfl (Nat.le_refl _)).mono ?_
  rw [one_parse]
  rintro y w7 ⟨vl, vr, rfl, hol, hor, hb⟩
  obtain ⟨A4, c4, rfl, -, -⟩ := Kd.R_reads hol
  obtain ⟨A5, c5, rfl, hl5, hC5⟩ := Kd.R_reads hor
  have HC5 := Aside0.mk hC5
  have HL5 := Aside0.mk hl5
  have n1_ := Aside0.mk (Kd.C_below (Kd.C_alloc HC.out _) hb); clear HC; have HC := n1_; clear n1_
  have n0_ := Aside0.mk (below_step (below_alloc HB.out _) hb); clear HB hb hol hor hl5 hC5; have HB := n0_; clear n0_
  go_wp2_with fail
  refine (eq_calls true (Kd.C_alloc HC5.out _) rfl HL5.out (lit_C [9] 1 rfl w7 #[.int .u8 9] rfl (0, 0) (by decide)) rfl (Nat.le_refl _) (by decide) (decide_eq_true rfl)).mono ?_
  rintro y w8 ⟨rfl, hb⟩
  have n1_ := Aside0.mk (Kd.C_below (Kd.C_alloc HC.out _) hb); clear HC; have HC := n1_; clear n1_
  have n0_ := Aside0.mk (below_step (below_alloc HB.out _) hb); clear HB hb HC5 HL5; have HB := n0_; clear n0_
  go_wp2_with fail
  refine (isLit_calls (l := chapL) (bs := [3, 1, 1, 97, 4, 1]) _ (HT.out.below (below_alloc HB.out _)) (HRD.out.from (below_alloc HB.out _) HRD.out.lt) chap_parse (by decide) (Kd.C_alloc HC.out _) HNN.out HL.out (lit_C [3, 1, 1, 97, 4, 1] 6 rfl w8 _ rfl (0, 0) (by decide)) rfl (Nat.le_refl _)).mono ?_
  rintro y w9 ⟨rfl, hb⟩
  have n0_ := Aside0.mk (below_step (below_alloc HB.out _) hb); clear HB hb HC HNN HL; have HB := n0_; clear n0_
  go_wp2_with fail
  refine (isLit_calls (l := numsL) (bs := [3, 2, 127, 3, 192, 0]) _ (HT.out.below (below_alloc (below_alloc HB.out _) _)) (HRD.out.from (below_alloc (below_alloc HB.out _) _) HRD.out.lt) nums_parse (by decide) (Kd.C_alloc (lit_C35 numsL w9 _ rfl (by decide)) _) rfl (Nat.le_refl _) (lit_C' [3, 2, 127, 3, 192, 0] (w9.alloc _) (World.size_alloc ..) _ rfl (by decide)) rfl (Nat.le_refl _)).mono ?_
  rintro y w10 ⟨rfl, hb⟩
  have n0_ := Aside0.mk (below_step (below_alloc (below_alloc HB.out _) _) hb); clear HB hb; have HB := n0_; clear n0_
  go_wp2_with fail
  refine (failsLit_calls (b := [2, 7, 0]) (want := 4) _ (HT.out.below (below_alloc HB.out _)) (HRD.out.from (below_alloc HB.out _) HRD.out.lt) (by decide +kernel) (lit_C [2, 7, 0] 3 rfl w10 _ rfl (0, 0) (by decide)) rfl (Nat.le_refl _)).mono ?_
  rintro y w11 ⟨rfl, hb⟩
  have n0_ := Aside0.mk (below_step (below_alloc HB.out _) hb); clear HB hb; have HB := n0_; clear n0_
  go_wp2_with fail
  refine (failsLit_calls (b := [2, 4, 1]) (want := 40) _ (HT.out.below (below_alloc HB.out _)) (HRD.out.from (below_alloc HB.out _) HRD.out.lt) (by decide +kernel) (lit_C [2, 4, 1] 3 rfl w11 _ rfl (0, 0) (by decide)) rfl (Nat.le_refl _)).mono ?_
  rintro y w12 ⟨rfl, hb⟩
  have n0_ := Aside0.mk (below_step (below_alloc HB.out _) hb); clear HB hb; have HB := n0_; clear n0_
  go_wp2_with fail
  refine (failsLit_calls (b := [0]) (want := 40) _ (HT.out.below (below_alloc HB.out _)) (HRD.out.from (below_alloc HB.out _) HRD.out.lt) (by decide +kernel) (lit_C [0] 1 rfl w12 _ rfl (0, 0) (by decide)) rfl (Nat.le_refl _)).mono ?_
  rintro y w13 ⟨rfl, hb⟩
  have n0_ := Aside0.mk (below_step (below_alloc HB.out _) hb); clear HB hb; have HB := n0_; clear n0_
  go_wp2_with fail
  refine (failsLit_calls (b := [2, 1, 1, 128]) (want := 20) _ (HT.out.below (below_alloc HB.out _)) (HRD.out.from (below_alloc HB.out _) HRD.out.lt) (by decide +kernel) (lit_C [2, 1, 1, 128] 4 rfl w13 _ rfl (0, 0) (by decide)) rfl (Nat.le_refl _)).mono ?_
  rintro y w14 ⟨rfl, hb⟩
  have n0_ := Aside0.mk (below_step (below_alloc HB.out _) hb); clear HB hb; have HB := n0_; clear n0_
  go_wp2
  go_ret
  exact ⟨rfl, HB.out⟩
end Go.Proofs.YtkhigagkgpfpfaaDoor.Ext

/- pool.Check's closure, slices.IndexFunc and ContainsFunc at it, and pool.Check, walked. -/
import Derived.Test.YtkhigagkgpfpfaaDoorPoolFits
set_option linter.unusedVariables false
set_option linter.unusedSimpArgs false
namespace Go.Proofs.YtkhigagkgpfpfaaDoor.Ext
open Go.RowKit Go.Lib Go.Proofs.YtkhigagkgpfpfaaDoorW.PrintWords Go.Proofs.YtkhigagkgpfpfaaDoorW.PrintLast Go.Proofs.YtkhigagkgpfpfaaDoorW.PrintMore Go.Proofs.YtkhigagkgpfpfaaDoor.PLeb
attribute [local go_sem] max2_int min2_int max_two min_two max_three min_three max_four min_four

/-- every text is no longer than that -/
def Small (l : List S35) : Prop := ∀ x ∈ l, x.f1.size ≤ 17592186044416
def AllFit (l xs : List S35) : Prop := xs.all (fitsB l) = true
def agg35 (x : S35) : Value := .agg #[.int .i64 x.f0, .string x.f1, .int .i64 x.f2, .int .i64 x.f3, .int .i64 x.f4, .int .i64 x.f5]
theorem rd_small {l : List S35} (h : Small l) (i : Int) : (rd_T35 l i).f1.size ≤ 17592186044416 := by
  unfold rd_T35 List.getD
  cases hi : l[i.toNat]? with
  | none => show (⟨#[]⟩ : ByteArray).size ≤ _; decide
  | some x => exact h x (List.mem_of_getElem? hi)
set_option maxHeartbeats 4000000 in
set_option maxRecDepth 100000 in
theorem check1_calls {l : List S35} {A : Option Addr} {n cap : Nat} (B : Nat) (x : S35) (w : World) (hT : Tabs w) (hs : x.f1.size ≤ 17592186044416) (hr : Kd.C k35 w A l.length l) (hn : l.length = n) (hc : n ≤ cap)
    (hB : w.cell? ⟨B, 0, none⟩ = some (.slice A n cap)) (hBl : B < w.heap.size) :
    Calls Tryd.prog 42 #[agg35 x, .pointer (some ⟨B, 0, none⟩)] w fun e w' => e = .returned (.bool (!fitsB l x)) ∧ Below w.heap.size w w' := by
  subst hn
  have HF := Aside0.mk (fun (w1 : World) (hb : Below w.heap.size w w1) => fits_calls A cap l x w1 (hT.below hb) hs (Kd.C_below hr hb) hc)
  clear hT hs hr hc
  obtain ⟨v, hv⟩ : ∃ v, fitsB l x = v := ⟨_, rfl⟩
  have hne : B ≠ w.heap.size := by omega
  rw [hv] at HF ⊢
  clear hv
  unfold agg35
  go_enter Tryd.func42, Tryd.ntmps42
  go_wp2_with fail
  refine (HF.out _ (below_alloc (Below.refl _ _) _)).mono ?_
  rintro e w1 ⟨rfl, hb⟩
  have HB := Aside0.mk (below_step (below_alloc (Below.refl _ _) _) hb)
  clear hb HF
  go_wp2
  go_ret
  exact ⟨rfl, HB.out⟩
set_option maxHeartbeats 8000000 in
set_option maxRecDepth 100000 in
theorem indexFunc_calls {l xs : List S35} {A A1 : Option Addr} {n cap n1 c1 : Nat} (B : Nat) (w : World) (hT : Tabs w) (hs : Small xs) (hr : Kd.C k35 w A l.length l) (hn : l.length = n) (hc : n ≤ cap)
    (hr1 : Kd.C k35 w A1 xs.length xs) (hn1 : xs.length = n1) (hc1 : n1 ≤ c1) (hm : n1 ≤ 9223372036854775807) (hB : w.cell? ⟨B, 0, none⟩ = some (.slice A n cap)) (hBl : B < w.heap.size) :
    Calls Tryd.prog 61 #[.slice A1 n1 c1, .func (.func 42) #[] #[.pointer (some ⟨B, 0, none⟩)]] w fun e w' => ∃ r : Int, e = .returned (.int .i64 r) ∧ (0 ≤ r ↔ ¬ AllFit l xs) ∧ Below w.heap.size w w' := by
  subst hn1
  have HF := Aside0.mk (fun (w1 : World) (hb : Below w.heap.size w w1) (x : S35) (hx : x.f1.size ≤ 17592186044416) => check1_calls B x w1 (hT.below hb) hx (Kd.C_below hr hb) hn hc ((hb.cell (p := ⟨B, 0, none⟩) hBl).trans hB) (Nat.lt_of_lt_of_le hBl hb.size))
  have HR := Aside0.mk hr1
  have HS := Aside0.mk hs
  have HM := Aside0.mk hm
  have HB0 := Aside0.mk (Below.refl w.heap.size w)
  clear hT hs hr hn hc hr1 hc1 hm hB hBl
  go_enter Tryd.func61, Tryd.ntmps61
  go_wp2
  go_loopw [8] (fun i wr => ∃ k : Int, i = .int .i64 k ∧ 0 ≤ k ∧ k ≤ xs.length ∧ Aside0 ((xs.take k.toNat).all (fitsB l) = true) ∧ Aside0 (Below w.heap.size w wr)) (fun i _ => xs.length - (RowKit.intOf i).toNat)
  case atStart => exact ⟨0, rfl, by omega, by omega, ⟨rfl⟩, HB0⟩
  case round =>
    obtain ⟨k, rfl, hk0, hk, HA, HB⟩ := hrel
    clear HB0
    by_cases hlt : k < xs.length
    · have hltz : decide (k < (xs.length : Int)) = true := decide_eq_true hlt
      obtain ⟨ad, e0, h0, h1, h2, h3, h4, h5⟩ := at_T35 (Kd.C_below HR.out HB.out) k hk0 hlt
      subst e0
      have hsm := rd_small HS.out k
      have hrd : rd_T35 xs k = xs[k.toNat] := by unfold rd_T35; rw [List.getD_eq_getElem?_getD, List.getElem?_eq_getElem (by omega)]; rfl
      have htk : (xs.take (k + 1).toNat).all (fitsB l) = (fitsB l (rd_T35 xs k)) := by
        rw [show (k + 1).toNat = k.toNat + 1 by omega, List.take_succ_eq_append_getElem (by omega), List.all_append, HA.out, hrd]; simp
      have HTK := Aside0.mk htk
      have hany : fitsB l (rd_T35 xs k) = false → ¬ AllFit l xs := by
        intro hf ha
        rw [hrd] at hf
        rw [List.all_eq_true.1 ha _ (List.getElem_mem (by omega))] at hf
        cases hf
      have HN := Aside0.mk hany
      have HX := Aside0.mk (HF.out _ HB.out _ hsm)
      clear htk hany hrd hsm
      obtain ⟨x, hx⟩ : ∃ x, rd_T35 xs k = x := ⟨_, rfl⟩
      rw [hx] at h0 h1 h2 h3 h4 h5 HTK HN HX
      obtain ⟨v, hv⟩ : ∃ v, fitsB l x = v := ⟨_, rfl⟩
      rw [hv] at HTK HN HX
      clear hx hv
      unfold agg35 at HX
      have HW := Aside0.mk (show wrap64 (k + 1) = k + 1 from wrap64_id _ (by omega) (by have := HM.out; omega))
      go_wp2_with fail
      refine HX.out.mono ?_
      rintro e w1 ⟨rfl, hb⟩
      have HB1 := Aside0.mk (below_step HB.out hb)
      clear hb HX
      cases v
      · have HNF := HN.out rfl
        have HNF' := Aside0.mk HNF
        clear HNF HN
        go_wp2
        go_ret
        exact ⟨_, rfl, ⟨fun _ => HNF'.out, fun _ => hk0⟩, HB1.out⟩
      · go_wp2
        go_roundw
        case rel => exact ⟨k + 1, by first | rfl | rw [HW.out], by omega, by omega, HTK, HB1⟩
        case measure => rw [HW.out]; simp [RowKit.intOf]; omega
    · have hltz : decide (k < (xs.length : Int)) = false := decide_eq_false hlt
      have hall : AllFit l xs := by have := HA.out; rwa [List.take_of_length_le (by omega)] at this  
      have HALL := Aside0.mk hall
      clear hall
      go_wp2
      go_ret
      exact ⟨_, rfl, ⟨fun h => absurd h (by decide), fun h => absurd HALL.out h⟩, HB.out⟩
set_option maxHeartbeats 8000000 in
set_option maxRecDepth 100000 in
theorem containsFunc_calls {l xs : List S35} {A A1 : Option Addr} {n cap n1 c1 : Nat} (B : Nat) (w : World) (hT : Tabs w) (hs : Small xs) (hr : Kd.C k35 w A l.length l) (hn : l.length = n) (hc : n ≤ cap)
    (hr1 : Kd.C k35 w A1 xs.length xs) (hn1 : xs.length = n1) (hc1 : n1 ≤ c1) (hm : n1 ≤ 9223372036854775807) (hB : w.cell? ⟨B, 0, none⟩ = some (.slice A n cap)) (hBl : B < w.heap.size) :
    Calls Tryd.prog 41 #[.slice A1 n1 c1, .func (.func 42) #[] #[.pointer (some ⟨B, 0, none⟩)]] w fun e w' => ∃ b : Bool, e = .returned (.bool b) ∧ (b = true ↔ ¬ AllFit l xs) ∧ Below w.heap.size w w' := by
  have HF := Aside0.mk (indexFunc_calls B w hT hs hr hn hc hr1 hn1 hc1 hm hB hBl)
  clear hT hs hr hn hc hr1 hn1 hc1 hm hB hBl
  go_enter Tryd.func41, Tryd.ntmps41
  go_wp2_with fail
  refine HF.out.mono ?_
  rintro e w1 ⟨r, rfl, hr, hb⟩
  have HR := Aside0.mk hr
  have HB := Aside0.mk hb
  clear hr hb HF
  go_wp2
  go_ret
  exact ⟨_, rfl, by rw [← HR.out]; simp, HB.out⟩
def zeroB (c : S35) : Bool := c.f0 == 0 && (noText c.f1 && (c.f2 == 0 && (c.f3 == 0 && (c.f4 == 0 && c.f5 == 0))))
def okL (l : List S35) : Bool := decide (0 < l.length) && (zeroB (rd_T35 l 0) && (l.drop 1).all (fitsB l))
/-- Check's answer -/
def checkL (l : List S35) : Int := if 4096 < l.length then 5 else if okL l then 0 else 40
/-- what stands from a place on -/
theorem slice35_from (l : List S35) (A : Option Addr) (c j : Nat) (hj : j ≤ l.length) (hc : l.length ≤ c) :
    ∃ A' : Option Addr, (∀ W : World, (Instr.slice 24 (.slice A l.length c) (some (.int .i64 (j : Int))) none none).run Tryd.prog W = .ok (.slice A' (l.length - j) (c - j)) W) ∧
      ∀ w : World, Kd.C k35 w A l.length l → Kd.C k35 w A' (l.drop j).length (l.drop j) := by
  obtain ⟨i0, hi0, hz0, hz1, hz2⟩ := info_parts info35
  have h := cut_from (P := Tryd.prog) 24 35 .i64 Tryd.underlying24 hi0 6 hz1 A l.length c (j : Int) (by omega) (by omega)
  rw [Int.toNat_natCast] at h
  exact ⟨_, h, fun w hC => Kd.C_drop hC hj hc⟩
theorem small_drop {l : List S35} (h : Small l) (j : Nat) : Small (l.drop j) := fun x hx => h x (List.mem_of_mem_drop hx)
theorem ba_nil {t : ByteArray} (h : t.toList = []) : t = ⟨#[]⟩ := by
  apply ba_ext
  rw [← ByteArray.toList_eq, h]
theorem zeroB_eq {x : S35} (h : zeroB x = true) : x = ⟨0, ⟨#[]⟩, 0, 0, 0, 0⟩ := by
  obtain ⟨k, t, n, a, b, d⟩ := x
  simp only [zeroB, noText, Bool.and_eq_true, beq_iff_eq] at h
  obtain ⟨rfl, h1, rfl, rfl, rfl, rfl⟩ := h
  rw [ba_nil h1]
set_option maxHeartbeats 8000000 in
set_option maxRecDepth 100000 in
theorem check_calls {l : List S35} {A : Option Addr} {n cap : Nat} (w : World) (hT : Tabs w) (hs : Small l) (hr : Kd.C k35 w A l.length l) (hn : l.length = n) (hc : n ≤ cap) (hm : n ≤ 9223372036854775807) :
    Calls Tryd.prog 18 #[.slice A n cap] w fun e w' => e = .returned (.int .i64 (checkL l)) ∧ Below w.heap.size w w' := by
  subst hn
  have hu35 := Tryd.underlying35
  unfold checkL
  by_cases h1 : 4096 < l.length
  · rw [if_pos h1]
    have q1 : decide ((4096 : Int) < (l.length : Int)) = true := decide_eq_true (by omega)
    clear hr hs hT
    go_enter Tryd.func18, Tryd.ntmps18
    go_wp2
    go_ret
    exact ⟨rfl, below_alloc (Below.refl _ _) _⟩
  rw [if_neg h1]
  have q1 : decide ((4096 : Int) < (l.length : Int)) = false := decide_eq_false (by omega)
  by_cases h0 : l.length = 0
  · have q2 : ((l.length : Int) == 0) = true := beq_iff_eq.2 (by omega)
    have hk : okL l = false := by unfold okL; rw [decide_eq_false (by omega)]; rfl
    rw [hk]
    clear hr hs hT
    go_enter Tryd.func18, Tryd.ntmps18
    go_wp2
    go_ret
    exact ⟨rfl, below_alloc (Below.refl _ _) _⟩
  have q2 : ((l.length : Int) == 0) = false := beq_eq_false_iff_ne.2 (by omega)
  have hpos : (0 : Int) < (l.length : Int) := by omega
  obtain ⟨ad, e0, x0, x1, x2, x3, x4, x5⟩ := at_T35 (Kd.C_below hr (below_alloc (Below.refl w.heap.size w) (Obj.cells #[.slice A l.length cap] 24))) 0 (by omega) hpos
  subst e0
  obtain ⟨A', hcut, hC'⟩ := slice35_from l (some ad) cap 1 (by omega) hc
  have hcut1 : ∀ W : World, (Instr.slice 24 (.slice (some ad) l.length cap) (some (.int .i64 1)) none none).run Tryd.prog W = .ok (.slice A' (l.length - 1) (cap - 1)) W := hcut
  have HZ0 := Aside0.mk (show okL l = (zeroB (rd_T35 l 0) && (l.drop 1).all (fitsB l)) from by unfold okL; rw [decide_eq_true (by omega)]; rfl)
  have HF := Aside0.mk (fun (w1 : World) (hb : Below w.heap.size w w1) (B : Nat) hB hBl => containsFunc_calls (l := l) (xs := l.drop 1) (n1 := l.length - 1) (c1 := cap - 1) B w1 (hT.below hb) (small_drop hs 1) (Kd.C_below hr hb) rfl hc (hC' w1 (Kd.C_below hr hb)) (List.length_drop ..) (by omega) (by omega) hB hBl)
  clear hcut hC' hT hs hr hc hm h0 h1
  generalize hx : rd_T35 l 0 = x at x0 x1 x2 x3 x4 x5 HZ0
  obtain ⟨k, t, n, a, b, d⟩ := x
  have a0 : (w.alloc (Obj.cells #[.slice (some ad) l.length cap] 24)).cell? ad = some (.int .i64 k) := x0
  have a1 : (w.alloc (Obj.cells #[.slice (some ad) l.length cap] 24)).cell? ⟨ad.block, ad.off + 1, none⟩ = some (.string t) := x1
  have a2 : (w.alloc (Obj.cells #[.slice (some ad) l.length cap] 24)).cell? ⟨ad.block, ad.off + 2, none⟩ = some (.int .i64 n) := x2
  have a3 : (w.alloc (Obj.cells #[.slice (some ad) l.length cap] 24)).cell? ⟨ad.block, ad.off + 3, none⟩ = some (.int .i64 a) := x3
  have a4 : (w.alloc (Obj.cells #[.slice (some ad) l.length cap] 24)).cell? ⟨ad.block, ad.off + 4, none⟩ = some (.int .i64 b) := x4
  have a5 : (w.alloc (Obj.cells #[.slice (some ad) l.length cap] 24)).cell? ⟨ad.block, ad.off + 5, none⟩ = some (.int .i64 d) := x5
  clear x0 x1 x2 x3 x4 x5 hx
  obtain ⟨R, hR⟩ : ∃ R : Int, (if okL l = true then (0 : Int) else 40) = R := ⟨_, rfl⟩
  rw [hR]
  have HRES := Aside0.mk hR
  clear hR
  by_cases hz : zeroB ⟨k, t, n, a, b, d⟩ = true
  · rw [hz, Bool.true_and] at HZ0
    obtain ⟨rfl, rfl, rfl, rfl, rfl, rfl⟩ : k = 0 ∧ t = ⟨#[]⟩ ∧ n = 0 ∧ a = 0 ∧ b = 0 ∧ d = 0 := by simpa using zeroB_eq hz
    clear hz
    go_enter Tryd.func18, Tryd.ntmps18
    go_wp2_with fail
    refine (HF.out _ (below_alloc (Below.refl _ _) _) _ ?_ ?_).mono ?_
    · exact cell_of_row _ _ 0 _ _ _ (heap_alloc_new w _)
    · rw [World.size_alloc]; omega
    rintro e w1 ⟨b, rfl, hb, hbl⟩
    have HB := Aside0.mk (below_step (below_alloc (Below.refl _ _) _) hbl)
    have HV := Aside0.mk hb
    clear hb hbl HF
    cases b
    · have hk : okL l = true := by rw [HZ0.out]; exact Classical.not_not.1 (fun h => Bool.noConfusion (HV.out.2 h))
      have HK := Aside0.mk (show R = 0 by rw [← HRES.out, hk]; rfl)
      clear hk
      go_wp2
      go_ret
      exact ⟨by rw [HK.out]; rfl, HB.out⟩
    · have hk : okL l = false := by rw [HZ0.out]; exact Bool.eq_false_iff.2 (HV.out.1 rfl)
      have HK := Aside0.mk (show R = 40 by rw [← HRES.out, hk]; rfl)
      clear hk
      go_wp2
      go_ret
      exact ⟨by rw [HK.out]; rfl, HB.out⟩
  · have hk : okL l = false := by rw [HZ0.out, Bool.eq_false_iff.2 hz]; rfl
    have HK := Aside0.mk (show R = 40 by rw [← HRES.out, hk]; rfl)
    clear hk HZ0
    have HNZ := Aside0.mk hz
    clear hz
    go_enter Tryd.func18, Tryd.ntmps18
    go_wp2_with fail
    all_goals first | (go_ret; exact ⟨by rw [HK.out]; rfl, below_alloc (Below.refl _ _) _⟩) | (exfalso; exact HNZ.out (by simp [zeroB, noText, *]))
end Go.Proofs.YtkhigagkgpfpfaaDoor.Ext
